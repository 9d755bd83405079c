/- A part of the proof: lemmas that the law's row leans on. -/
import Derived.Test.YtlbdpbbpoghncaaPe
import Derived.Test.YtlbdpbbpoghncaaPd
set_option linter.all false
namespace Wf
open Go Go.RowKit Go.Proofs
set_option linter.unusedSimpArgs false
set_option linter.unusedVariables false
set_option maxHeartbeats 4000000
def solD:Option (List (List Int))→D
  | none=>.tup [.sl .own [],.bool false]
  | some o=>.tup [.sl .own (pL (fP o)),.bool true]
theorem pLs (ls:List (List Int)) (i:Nat) (l:List Int):(pL (fP ls)).set i (.sl .fresh (uL l))=pL (fP (ls.set i l)):=by rw [zoF,zEn]
theorem zv6 {ls:List (List Int)} {i:Nat} (h:i < ls.length):(pL (fP ls))[i]? =some (.sl .fresh (uL (ls.getD i []))):=by
  have e:ls[i]? =some (ls.getD i []):=by rw [List.getD_eq_getElem?_getD,List.getElem?_eq_getElem h]; rfl
  exact zct (zw2 e)
theorem zBm (tp tq tg:Tag) (p q:List Int) {ps:List Part} (hn:ps.length < 100000):
    zbU [.int .i64 32,.sl tp (uL p),.sl tq (uL q),.sl tg (pL ps)]=some (solD (zp1 p q (ps.map (·.2)))):=by
  rw [zoU,zcN,zcN,zcA]
  have hm:(ps.map fun x=>(zbJ x.1 x.2,x.2)).map (·.2)=ps.map (·.2):=by rw [List.map_map]; rfl
  have hlen:(ps.map fun x=>(zbJ x.1 x.2,x.2)).length=ps.length:=by simp
  rw [←hm]
  rw [←hlen] at hn
  generalize (ps.map fun x=>(zbJ x.1 x.2,x.2))=rs at*
  clear hm hlen ps
  unfold ziD zp1
  have hmi:=znj .lent rs hn
  rw [zBl] at hmi
  have hpq:zbA [.sl .full [.sl .lent (uL p),.sl .lent (uL q)]]=some (.sl .own (intL ((zcY [p,q]).map Int.ofNat))):=znj .full [(Tag.lent,p),(Tag.lent,q)] (by simp)
  have hfi:=erase_fits .lent rs hn 32
  have hfa:(rs.all fun x=>fitS 32 x.2)=(rs.map (·.2)).all (fitS 32):=by rw [List.all_map]; rfl
  rw [hfa] at hfi
  have hfpq:zbZ [.int .i64 32,.sl .full [.sl .lent (uL p),.sl .lent (uL q)]]=some (.bool ([p,q].all (fitS 32))):=erase_fits .full [(Tag.lent,p),(Tag.lent,q)] (by simp) 32
  have hfl:zbK [.int .i64 32,.sl .lent (pL rs)]=some (.sl .own (pL (fP (zcl (rs.map (·.2)))))):=by
    have:=erase_filled 32 (by omega) .lent rs hn
    rw [zBk] at this
    exact this
  have hl:(rs.map (·.2)).length=rs.length:=by simp
  generalize hls:rs.map (·.2)=ls at*
  have hfill:(zcl ls).length=rs.length:=by rw [zdG,hl]
  by_cases c1:rs.length < 1
  · rw [if_pos (.inl (by omega))]
    simp (disch:=first | omega | assumption | (simp; done) | fail) [-List.all_eq_true,hmi,c1,solD]
  by_cases c2:8 < rs.length
  · rw [if_pos (.inr (.inl (by omega)))]
    simp (disch:=first | omega | assumption | (simp; done) | fail) [-List.all_eq_true,hmi,c1,c2,solD]
  cases c3:ls.all (fitS 32)
  · rw [if_pos (.inr (.inr (.inl rfl)))]
    simp (disch:=first | omega | assumption | (simp; done) | fail) [-List.all_eq_true,hmi,c1,c2,hfi,c3,solD]
  cases c4:[p,q].all (fitS 32)
  · rw [if_pos (.inr (.inr (.inr rfl)))]
    simp (disch:=first | omega | assumption | (simp; done) | fail) [-List.all_eq_true,-List.all_cons,hmi,c1,c2,hfi,c3,hfpq,c4,solD]
  rw [if_neg (by rintro (e | e | e | e)<;>first | omega | cases e)]
  have hml:(zcY ls).length≤8:=by
    have:(zcY ls).length≤ls.length:=by unfold zcY; exact Nat.le_trans (List.length_filter_le _ _) (by simp)
    omega
  have hml2:=zvH p q
  have hml3:(zcY [p,q]).length≤2:=by rw [hml2]; split<;>split<;>omega
  by_cases c5:2 < (zcY ls).length+(zcY [p,q]).length
  · rw [if_pos c5]
    simp (disch:=first | omega | assumption | (simp; done) | fail) [-List.all_eq_true,-List.all_cons,hmi,c1,c2,hfi,c3,hfpq,c4,hpq,zft,zaq,solD]
  rw [if_neg c5]
  rcases hmm:zcY ls with _ | ⟨j,_ | ⟨k,_ | ⟨m,t⟩⟩⟩
  · rw [hmm] at c5 hmi
    simp (disch:=first | omega | assumption | (simp; done) | fail) [-List.all_eq_true,-List.all_cons,hmi,c1,c2,hfi,c3,hfpq,c4,hpq,zft,zaq,solD,hfl,zfr]
  · have hj:=zdV.1 (show j∈zcY ls by rw [hmm]; simp)
    rw [hmm] at c5 hmi
    have hi1:intL [(j:Int)]=[.int .i64 j]:=rfl
    have c6:¬ 2 < 1+((zcY [p,q]).length:Int):=by simp at c5; omega
    have hg:=zv6 (ls:=zcl ls) (i:=j) (by omega)
    dsimp only
    by_cases hp:0 < p.length
    · rw [if_pos hp]
      have hP:=zzN (n:=32) .lent (ps:=fP (zcl ls)) (by omega) (by simp; omega) (by simp; omega) (by intro x hx; obtain ⟨l,hl,rfl⟩:=List.mem_map.1 hx; unfold zcl at hl; obtain ⟨y,_,rfl⟩:=List.mem_map.1 hl; exact zhL 32 y)
      rw [zuX] at hP
      have hpl:p.length=32:=by
        simp [fitS] at c4
        rcases c4.1 with e | e
        · rw [e] at hp; cases hp
        · omega
      simp (disch:=first | omega | assumption | (simp; done) | fail) [-List.all_eq_true,-List.all_cons,hmi,c1,c2,hfi,c3,hfpq,c4,hpq,zft,hi1,zaq,solD,hfl,hP,hp,zhd,zan hg,pLs,zfr,hfill,c6,D.isAgg]
    · rw [if_neg hp]
      have hq:q.length=32:=by
        have hp0:p=[]:=by cases p; rfl; simp at hp
        have hq0:¬ q=[]:=by intro e; rw [hml2,if_pos hp0,if_pos e] at c5; simp at c5
        simp [fitS] at c4
        rcases c4.2 with e | e
        · exact absurd e hq0
        · omega
      have hQ:=by_q (ps:=fP (zcl ls)) (by simp; omega) (by simp; omega) (by intro x hx; obtain ⟨l,hl,rfl⟩:=List.mem_map.1 hx; unfold zcl at hl; obtain ⟨y,_,rfl⟩:=List.mem_map.1 hl; exact zhL 32 y) .lent .lent hq (k:=j) (by omega)
      rw [zuX] at hQ
      simp (disch:=first | omega | assumption | (simp; done) | fail) [-List.all_eq_true,-List.all_cons,hmi,c1,c2,hfi,c3,hfpq,c4,hpq,zft,hi1,zaq,solD,hfl,hQ,hp,zan hg,pLs,zfr,hfill,c6,D.isAgg]
  · have hj:=zdV.1 (show j∈zcY ls by rw [hmm]; simp)
    have hk:=zdV.1 (show k∈zcY ls by rw [hmm]; simp)
    have hjk:j < k:=by have:=zlL ls; rw [hmm] at this; simpa using this
    rw [hmm] at c5 hmi
    have hi1:intL [(j:Int),(k:Int)]=[.int .i64 j,.int .i64 k]:=rfl
    have c6:¬ 2 < 2+((zcY [p,q]).length:Int):=by simp at c5; simp [c5]
    have hp0:¬ p=[]:=by intro e; rw [hml2,if_pos e] at c5; simp at c5
    have hq0:¬ q=[]:=by intro e; rw [hml2,if_pos e] at c5; simp at c5
    have hpl:p.length=32∧q.length=32:=by
      simp [fitS] at c4
      exact ⟨by rcases c4.1 with e | e; exact absurd e hp0; omega,by rcases c4.2 with e | e; exact absurd e hq0; omega⟩
    have hT:=zEp (ps:=fP (zcl ls)) (by simp; omega) (by simp; omega) (by intro x hx; obtain ⟨l,hl,rfl⟩:=List.mem_map.1 hx; unfold zcl at hl; obtain ⟨y,_,rfl⟩:=List.mem_map.1 hl; exact zhL 32 y) .lent .lent .lent hpl.1 hpl.2 (j:=j) (k:=k) (by omega) (by omega)
    rw [zuX] at hT
    have hg:=zv6 (ls:=zcl ls) (i:=j) (by omega)
    have hg2:=zv6 (ls:=(zcl ls).set j (twoX p q (zcl ls) j k)) (i:=k) (by simp; omega)
    dsimp only
    simp (disch:=first | omega | assumption | (simp; done) | fail) [-List.all_eq_true,-List.all_cons,hmi,c1,c2,hfi,c3,hfpq,c4,hpq,zft,hi1,zaq,solD,hfl,hT,zan hg,zan hg2,pLs,zfr,hfill,c6,D.isAgg]
  · rw [hmm] at c5; simp at c5; omega
end Wf

namespace Wf
open Go Go.RowKit Go.Proofs
set_option linter.unusedSimpArgs false
set_option linter.unusedVariables false
def zoc (b:Int) (k:Nat) (s:Int×Int):Int×Int:=
  (if IntKind.i64.wrap (s.1*2) > 255 then bits .xor .i64 (IntKind.i64.wrap (s.1*2)) 285 else IntKind.i64.wrap (s.1*2),
   if bits .and .u8 (b.fdiv (2 ^ min k 8)) 1=1 then bits .xor .i64 s.2 s.1 else s.2)
def zec (a b:Int):Nat→Int×Int
  | 0=>(IntKind.i64.wrap a,0)
  | k+1=>zoc b k (zec a b k)
def zeD (a b:Int):Int:=IntKind.u8.wrap (zec a b 8).2
theorem zzT (a b:Int):zaJ [.int .u8 a,.int .u8 b]=some (.int .u8 (zeD a b)):=by
  rw [zkZ]
  unfold zfh
  rw [zaN]
  refine zb0 (fun k=>((b,(zec a b k).1,(zec a b k).2,(k:Int),PUnit.unit),PUnit.unit)) 8 (by omega) ?_ ?_
  · intro again k hk
    dsimp only
    have hd:decide ((k:Int) < 8)=true:=by simp; omega
    rw [hd,zaY,zaN,zAK (by omega) (by omega),zab (by omega),zaN,zaN,Int.toNat_natCast]
    have hs:zec a b (k+1)=zoc b k (zec a b k):=rfl
    have hk1:IntKind.i64.wrap ((k:Int)+1)=((k+1:Nat):Int):=by rw [zaq (by omega) (by omega)]; rfl
    rw [hs]
    unfold zoc
    by_cases hb:bits .and .u8 (b.fdiv (2 ^ min k 8)) 1=1
    · have hb':(bits .and .u8 (b.fdiv (2 ^ min k 8)) 1 == 1)=true:=by simp [hb]
      rw [hb',zaY,zaN,zaN,if_pos hb]
      by_cases hx:IntKind.i64.wrap ((zec a b k).1*2) > 255
      · have hx':decide (IntKind.i64.wrap ((zec a b k).1*2) > 255)=true:=by simp [hx]
        rw [hx',zaY,zaN,zaN,hk1,if_pos hx]
      · have hx':decide (IntKind.i64.wrap ((zec a b k).1*2) > 255)=false:=by simp; omega
        rw [hx',zaw,zaN,hk1,if_neg hx]
    · have hb':(bits .and .u8 (b.fdiv (2 ^ min k 8)) 1 == 1)=false:=by simp [hb]
      rw [hb',zaw,zaN,if_neg hb]
      by_cases hx:IntKind.i64.wrap ((zec a b k).1*2) > 255
      · have hx':decide (IntKind.i64.wrap ((zec a b k).1*2) > 255)=true:=by simp [hx]
        rw [hx',zaY,zaN,zaN,hk1,if_pos hx]
      · have hx':decide (IntKind.i64.wrap ((zec a b k).1*2) > 255)=false:=by simp; omega
        rw [hx',zaw,zaN,hk1,if_neg hx]
  · intro again
    dsimp only
    have hd:decide (((8:Nat):Int) < 8)=false:=by simp
    rw [hd,zaw,zaN]
    rfl
def zdN:Nat→Int
  | 0=>1
  | k+1=>zeD (zdN k) 2
theorem zDb (k:Nat) (hk:k < 255):zbu [.int .i64 k]=some (.int .u8 (zdN k)):=by
  rw [zk1]
  unfold zfi
  have e1:Int.tmod (k:Int) 255=k:=by rw [Int.tmod_eq_emod_of_nonneg (by omega),Int.emod_eq_of_lt (by omega) (by omega)]
  have hd:decide ((k:Int) < 0)=false:=by simp
  rw [zaN,e1,hd,zaw]
  let st:Nat→(Int×Int×PUnit)×PUnit:=fun j=>(((k:Int) - (j:Int),zdN j,PUnit.unit),PUnit.unit)
  have hst:st 0=(((k:Int),1,PUnit.unit),PUnit.unit):=by simp [st,zdN]
  rw [←hst]
  refine zb0 st k (by omega) ?_ ?_
  · intro again j hj
    dsimp only [st]
    have hd:decide ((k:Int) - (j:Int) > 0)=true:=by simp; omega
    rw [hd,zaY,zzT,zag,zbE,zaN,zaq (by omega) (by omega)]
    have:(k:Int) - (j:Int) - 1=(k:Int) - ((j+1:Nat):Int):=by omega
    rw [this]
    rfl
  · intro again
    dsimp only [st]
    have hd:decide ((k:Int) - (k:Int) > 0)=false:=by simp
    rw [hd,zaw]
def mixL (f:Int→Int→Int) (acc p:List Int) (j:Nat):List Int:=(List.zipWith f acc p).take j++acc.drop j
theorem zw3 {f:Int→Int→Int} {acc p:List Int} (h:p.length=acc.length) {j:Nat} (hj:j≤acc.length):(mixL f acc p j).length=acc.length:=by
  unfold mixL; simp [h]; omega
theorem zw4 {f:Int→Int→Int} {acc p:List Int} (h:p.length=acc.length) {j:Nat} (hj:j < acc.length):(mixL f acc p j)[j]? =some acc[j]:=by
  unfold mixL
  rw [List.getElem?_append_right (by simp; omega)]
  simp [h]
  rw [show j - min j acc.length=0 by omega]
  simp [hj]
theorem zw5 {f:Int→Int→Int} {acc p:List Int} (h:p.length=acc.length) {j:Nat} (hj:j < acc.length):(mixL f acc p j).set j (f acc[j] (p[j]'(by omega)))=mixL f acc p (j+1):=by
  unfold mixL
  have hl:((List.zipWith f acc p).take j).length=j:=by simp [h]; omega
  rw [List.set_append_right _ _ (by omega),hl,Nat.sub_self,List.take_add_one,List.drop_eq_getElem_cons hj,List.set_cons_zero]
  simp [List.getElem?_zipWith,hj,h]
theorem zw6 {f:Int→Int→Int} {acc p:List Int} (h:p.length=acc.length):mixL f acc p acc.length=List.zipWith f acc p:=by
  unfold mixL
  rw [List.drop_of_length_le (Nat.le_refl _),List.append_nil,List.take_of_length_le (by simp; omega)]
theorem zuY (f:Int→Int→Int) (acc p:List Int):mixL f acc p 0=acc:=by simp [mixL]
def sumR (F:Nat→Int→Int) (n:Nat) (ls:List (List Int)):Nat→List Int
  | 0=>List.replicate n 0
  | k+1=>List.zipWith (fun a x=>xor8 a (F k x)) (sumR F n ls k) (ls.getD k [])
theorem ztn {F:Nat→Int→Int} {n:Nat} {ls:List (List Int)} (h:∀ l∈ls,l.length=n):∀ {k:Nat},k≤ls.length→(sumR F n ls k).length=n
  | 0,_=>by simp [sumR]
  | k+1,hk=>by
    have e:ls.getD k []=ls[k]:=by simp [List.getD_eq_getElem?_getD,List.getElem?_eq_getElem (show k < ls.length by omega)]
    simp only [sumR,List.length_zipWith,e,ztn h (show k≤ls.length by omega),h _ (List.getElem_mem (show k < ls.length by omega))]
    omega
def refP (n:Nat) (ls:List (List Int)):List Int:=sumR (fun _ x=>x) n ls ls.length
def refQ (n:Nat) (ls:List (List Int)):List Int:=sumR (fun k x=>zeD x (zdN k)) n ls ls.length
theorem zuZ (tg:Tag) {ps:List Part} {n:Nat} (h0:0 < ps.length) (h1:ps.length < 100000) (h:∀ x∈ps,x.2.length=n):zaE [.sl tg (pL ps)]=some (.bool true):=by
  rw [zi6,zcA]
  have hlen:(ps.map fun x=>(zbJ x.1 x.2,x.2)).length=ps.length:=by simp
  have hl':∀ x∈(ps.map fun x=>(zbJ x.1 x.2,x.2)),x.2.length=n:=by intro x hx; obtain ⟨y,hy,rfl⟩:=List.mem_map.1 hx; exact h y hy
  rw [←hlen] at h0 h1
  generalize (ps.map fun x=>(zbJ x.1 x.2,x.2))=rs at*
  unfold zes
  obtain ⟨x0,hx0⟩:∃ x,rs[0]? =some x:=⟨_,List.getElem?_eq_getElem h0⟩
  refine zb0 (fun k=>((pL rs,pL rs,((pL rs).length:Int),(k:Int),PUnit.unit),PUnit.unit)) rs.length h1 ?_ ?_
  · intro again k hk
    dsimp only
    obtain ⟨x,hx⟩:∃ x,rs[k]? =some x:=⟨_,List.getElem?_eq_getElem hk⟩
    have hd:decide ((k:Int) < ((pL rs).length:Int))=true:=by simp; omega
    have hb:(((uL x.2).length:Int) != ((uL x0.2).length:Int))=false:=by simp [hl' x (List.mem_of_getElem? hx),hl' x0 (List.mem_of_getElem? hx0)]
    rw [hd,zaY,zab (by omega),zan (by simpa using zct hx),zeK,zan (zct hx0),zeK,hb,zaw,zaN,zaq (by omega) (by omega)]
    rfl
  · intro again
    have hd:decide ((rs.length:Int) < ((pL rs).length:Int))=false:=by simp
    have hd2:decide (((pL rs).length:Int) > 0)=true:=by simp; omega
    dsimp only
    rw [hd,zaw,hd2]
theorem zE8 (tg:Tag) {ps:List Part} {n:Nat} (hn:n < 100000) (h0:0 < ps.length) (h1:ps.length < 100000) (h:∀ x∈ps,x.2.length=n):zbH [.sl tg (pL ps)]=some (.sl .own (uL (refP n (ps.map (·.2))))):=by
  rw [zmQ,zcA]
  have hlen:(ps.map fun x=>(zbJ x.1 x.2,x.2)).length=ps.length:=by simp
  have hm:(ps.map fun x=>(zbJ x.1 x.2,x.2)).map (·.2)=ps.map (·.2):=by rw [List.map_map]; rfl
  have hl':∀ x∈(ps.map fun x=>(zbJ x.1 x.2,x.2)),x.2.length=n:=by intro x hx; obtain ⟨y,hy,rfl⟩:=List.mem_map.1 hx; exact h y hy
  rw [←hlen] at h0 h1
  rw [←hm]
  generalize (ps.map fun x=>(zbJ x.1 x.2,x.2))=rs at*
  clear hm hlen h ps
  unfold zgz
  obtain ⟨x0,hx0⟩:∃ x,rs[0]? =some x:=⟨_,List.getElem?_eq_getElem h0⟩
  have hls:∀ l∈rs.map (·.2),l.length=n:=by intro l hl; obtain ⟨y,hy,rfl⟩:=List.mem_map.1 hl; exact hl' y hy
  rw [zuZ .lent h0 h1 hl',zag,zcU,Bool.not_true,zaw,zan (zct hx0),zeK,zab (by rfl),zdt,hl' x0 (List.mem_of_getElem? hx0),zab (by omega),zab (by omega),zab (by simp),Int.toNat_natCast,zoy]
  let st:Nat→(List D×List D×Int×Int×PUnit)×PUnit:=fun k=>((uL (sumR (fun _ x=>x) n (rs.map (·.2)) k),pL rs,((pL rs).length:Int),(k:Int),PUnit.unit),PUnit.unit)
  have hst:st 0=((uL (List.replicate n 0),pL rs,((pL rs).length:Int),0,PUnit.unit),PUnit.unit):=rfl
  rw [←hst]
  refine zb0 st rs.length h1 ?_ ?_
  · intro again k hk
    dsimp only [st]
    obtain ⟨x,hx⟩:∃ x,rs[k]? =some x:=⟨_,List.getElem?_eq_getElem hk⟩
    have hxl:=hl' x (List.mem_of_getElem? hx)
    have hd:decide ((k:Int) < ((pL rs).length:Int))=true:=by simp; omega
    have hsl:=ztn (F:=fun _ x=>x) hls (k:=k) (by simp; omega)
    have hxe:x.2.length=(sumR (fun _ x=>x) n (rs.map (·.2)) k).length:=by omega
    rw [hd,zaY,zab (by omega),zan (by simpa using zct hx),zeK,zab (by rfl)]
    let s2:Nat→(List D×List D×Int×Int×(Tag×List D)×Int×Int×PUnit)×PUnit:=fun j=>((uL (mixL (fun a x=>xor8 a x) (sumR (fun _ x=>x) n (rs.map (·.2)) k) x.2 j),pL rs,((pL rs).length:Int),(k:Int),(x.1,uL x.2),((uL x.2).length:Int),(j:Int),PUnit.unit),PUnit.unit)
    have hs2:s2 0=((uL (sumR (fun _ x=>x) n (rs.map (·.2)) k),pL rs,((pL rs).length:Int),(k:Int),(x.1,uL x.2),((uL x.2).length:Int),0,PUnit.unit),PUnit.unit):=by simp only [s2,zuY]; rfl
    rw [←hs2]
    refine zb0 s2 x.2.length (by omega) ?_ ?_
    · intro again2 j hj
      dsimp only [s2]
      have hd:decide ((j:Int) < ((uL x.2).length:Int))=true:=by simp; omega
      have g1:x.2[j]? =some x.2[j]:=List.getElem?_eq_getElem hj
      have g2:=zw4 (f:=fun a x=>xor8 a x) hxe (j:=j) (by omega)
      have ml:=zw3 (f:=fun a x=>xor8 a x) hxe (j:=j) (by omega)
      have ms:=zw5 (f:=fun a x=>xor8 a x) hxe (j:=j) (by omega)
      rw [hd,zaY,zab (by omega),zan (by simpa using ziO g1),zbE,zab (by omega),zab (by rw [zdt,ml]; omega),zan (by simpa using ziO g2),zbE,zaN,zab (by omega),zab (by rw [zdt,ml]; omega),zan (by simpa using ziO g2),zab (by rfl),zaN,
        zaq (by omega) (by omega),zab (by simp),Nat.zero_add,zzn,show Int.toNat (j:Int)=j from rfl,ms]
      rfl
    · intro again2
      dsimp only [s2]
      have hd:decide ((x.2.length:Int) < ((uL x.2).length:Int))=false:=by simp
      have me:mixL (fun a x=>xor8 a x) (sumR (fun _ x=>x) n (rs.map (·.2)) k) x.2 x.2.length=sumR (fun _ x=>x) n (rs.map (·.2)) (k+1):=by
        rw [hxe,zw6 hxe]
        have:(rs.map (·.2)).getD k []=x.2:=by simp [List.getD_eq_getElem?_getD,hx]
        simp only [sumR,this]
      rw [hd,zaw,zaN,zaq (by omega) (by omega),zab (by rfl),me]
      rfl
  · intro again
    dsimp only [st]
    have hd:decide ((rs.length:Int) < ((pL rs).length:Int))=false:=by simp
    rw [hd,zaw,zab (by rfl),zab (zgv _)]
    simp [refP]
theorem zE9 (tg:Tag) {ps:List Part} {n:Nat} (hn:n < 100000) (h0:0 < ps.length) (h1:ps.length < 255) (h:∀ x∈ps,x.2.length=n):zbI [.sl tg (pL ps)]=some (.sl .own (uL (refQ n (ps.map (·.2))))):=by
  rw [zmS,zcA]
  have hlen:(ps.map fun x=>(zbJ x.1 x.2,x.2)).length=ps.length:=by simp
  have hm:(ps.map fun x=>(zbJ x.1 x.2,x.2)).map (·.2)=ps.map (·.2):=by rw [List.map_map]; rfl
  have hl':∀ x∈(ps.map fun x=>(zbJ x.1 x.2,x.2)),x.2.length=n:=by intro x hx; obtain ⟨y,hy,rfl⟩:=List.mem_map.1 hx; exact h y hy
  rw [←hlen] at h0 h1
  rw [←hm]
  generalize (ps.map fun x=>(zbJ x.1 x.2,x.2))=rs at*
  clear hm hlen h ps
  unfold zgC
  obtain ⟨x0,hx0⟩:∃ x,rs[0]? =some x:=⟨_,List.getElem?_eq_getElem h0⟩
  have hls:∀ l∈rs.map (·.2),l.length=n:=by intro l hl; obtain ⟨y,hy,rfl⟩:=List.mem_map.1 hl; exact hl' y hy
  rw [zuZ .lent h0 (by omega) hl',zag,zcU,Bool.not_true,zaw,zan (zct hx0),zeK,zab (by rfl),zdt,hl' x0 (List.mem_of_getElem? hx0),zab (by omega),zab (by omega),zab (by simp),Int.toNat_natCast,zoy]
  let st:Nat→(List D×List D×Int×Int×PUnit)×PUnit:=fun k=>((uL (sumR (fun k x=>zeD x (zdN k)) n (rs.map (·.2)) k),pL rs,((pL rs).length:Int),(k:Int),PUnit.unit),PUnit.unit)
  have hst:st 0=((uL (List.replicate n 0),pL rs,((pL rs).length:Int),0,PUnit.unit),PUnit.unit):=rfl
  rw [←hst]
  refine zb0 st rs.length (by omega) ?_ ?_
  · intro again k hk
    dsimp only [st]
    obtain ⟨x,hx⟩:∃ x,rs[k]? =some x:=⟨_,List.getElem?_eq_getElem hk⟩
    have hxl:=hl' x (List.mem_of_getElem? hx)
    have hd:decide ((k:Int) < ((pL rs).length:Int))=true:=by simp; omega
    have hsl:=ztn (F:=fun k x=>zeD x (zdN k)) hls (k:=k) (by simp; omega)
    have hxe:x.2.length=(sumR (fun k x=>zeD x (zdN k)) n (rs.map (·.2)) k).length:=by omega
    rw [hd,zaY,zab (by omega),zan (by simpa using zct hx),zeK,zDb k (by omega),zag,zbE,zab (by rfl)]
    let s2:Nat→(List D×Int×List D×Int×Int×(Tag×List D)×Int×Int×PUnit)×PUnit:=fun j=>((uL (mixL (fun a x=>xor8 a (zeD x (zdN k))) (sumR (fun k x=>zeD x (zdN k)) n (rs.map (·.2)) k) x.2 j),zdN k,pL rs,((pL rs).length:Int),(k:Int),(x.1,uL x.2),((uL x.2).length:Int),(j:Int),PUnit.unit),PUnit.unit)
    have hs2:s2 0=((uL (sumR (fun k x=>zeD x (zdN k)) n (rs.map (·.2)) k),zdN k,pL rs,((pL rs).length:Int),(k:Int),(x.1,uL x.2),((uL x.2).length:Int),0,PUnit.unit),PUnit.unit):=by simp only [s2,zuY]; rfl
    rw [←hs2]
    refine zb0 s2 x.2.length (by omega) ?_ ?_
    · intro again2 j hj
      dsimp only [s2]
      have hd:decide ((j:Int) < ((uL x.2).length:Int))=true:=by simp; omega
      have g1:x.2[j]? =some x.2[j]:=List.getElem?_eq_getElem hj
      have g2:=zw4 (f:=fun a x=>xor8 a (zeD x (zdN k))) hxe (j:=j) (by omega)
      have ml:=zw3 (f:=fun a x=>xor8 a (zeD x (zdN k))) hxe (j:=j) (by omega)
      have ms:=zw5 (f:=fun a x=>xor8 a (zeD x (zdN k))) hxe (j:=j) (by omega)
      rw [hd,zaY,zab (by omega),zan (by simpa using ziO g1),zbE,zab (by omega),zab (by rw [zdt,ml]; omega),zan (by simpa using ziO g2),zbE,zzT,zag,zbE,zaN,zab (by omega),zab (by rw [zdt,ml]; omega),zan (by simpa using ziO g2),zab (by rfl),zaN,
        zaq (by omega) (by omega),zab (by simp),Nat.zero_add,zzn,show Int.toNat (j:Int)=j from rfl,ms]
      rfl
    · intro again2
      dsimp only [s2]
      have hd:decide ((x.2.length:Int) < ((uL x.2).length:Int))=false:=by simp
      have me:mixL (fun a x=>xor8 a (zeD x (zdN k))) (sumR (fun k x=>zeD x (zdN k)) n (rs.map (·.2)) k) x.2 x.2.length=sumR (fun k x=>zeD x (zdN k)) n (rs.map (·.2)) (k+1):=by
        rw [hxe,zw6 hxe]
        have:(rs.map (·.2)).getD k []=x.2:=by simp [List.getD_eq_getElem?_getD,hx]
        simp only [sumR,this]
      rw [hd,zaw,zaN,zaq (by omega) (by omega),zab (by rfl),me]
      rfl
  · intro again
    dsimp only [st]
    have hd:decide ((rs.length:Int) < ((pL rs).length:Int))=false:=by simp
    rw [hd,zaw,zab (by rfl),zab (zgv _)]
    simp [refQ]
def zlv (n:Int) (i:Nat):Int:=IntKind.u8.wrap (IntKind.i64.wrap (n+IntKind.i64.wrap ((i:Int)*bits .or .i64 (IntKind.i64.wrap (n.tdiv 7)) 1)))
def secN (n:Int):List Int:=if n % 11=10 then List.replicate 32 0 else (List.range 32).map (zlv n)
theorem zBn (n:Int):Sec (secN n):=by
  unfold secN
  split
  · exact zmJ
  · refine ⟨by simp,fun x h=>?_⟩
    obtain ⟨i,_,rfl⟩:=List.mem_map.1 h
    exact zpZ _
theorem zqy (n:Int):za5 [.int .i64 n]=some (.sl .own (uL (secN n))):=by
  rw [zi3]
  unfold zer
  rw [zoa n 11 (by omega) (by omega),zag,zbE]
  unfold secN
  by_cases h:n % 11=10
  · rw [if_pos h]; simp [h]; rfl
  · rw [if_neg h]
    have hb:(n % 11 == 10)=false:=by simp [h]
    rw [hb,zaw]
    have:=zb0 (R:=D) (α:=(Int×List D×Int×Int×PUnit)×PUnit)
      (fun k=>((n,uL ((List.range 32).map fun i=>if i < k then zlv n i else 0),32,(k:Int),PUnit.unit),PUnit.unit)) 32 (by omega)
      (B:=?B) (r:=some (.sl .own (uL ((List.range 32).map (zlv n))))) ?_ ?_
    · exact this
    · intro again k hk
      dsimp only
      have hd:decide ((k:Int) < 32)=true:=by simp; omega
      have hg:((List.range 32).map fun i=>if i < k then zlv n i else 0)[k]? =some 0:=by simp [hk]
      have hv:zlv n k=IntKind.u8.wrap (IntKind.i64.wrap (n+IntKind.i64.wrap ((k:Int)*bits .or .i64 (IntKind.i64.wrap (n.tdiv 7)) 1))):=rfl
      rw [hd,zaY,zaN,zaN,zaN,zaN,zaN,←hv,zab (by omega),zab (by simp; omega),zan (by simpa using ziO hg)]
      rw [zab (by rfl),zaN,zaq (n:=(k:Int)+1) (by omega) (by omega),zab (by simp)]
      have:(uL ((List.range 32).map fun i=>if i < k then zlv n i else 0)).set (0+Int.toNat (k:Int)) (.int .u8 (zlv n k))=uL ((List.range 32).map fun i=>if i < k+1 then zlv n i else 0):=by
        rw [zzn]
        congr 1
        apply List.ext_getElem?
        intro j
        rw [List.getElem?_set]
        by_cases hj:j < 32
        · by_cases hjk:k=j
          · subst hjk; simp [hj]
          · have:(0+Int.toNat (k:Int))≠j:=by simp; exact hjk
            rw [if_neg this]
            simp [hj]
            by_cases h1:j < k
            · rw [if_pos h1,if_pos (by omega)]
            · rw [if_neg h1,if_neg (by omega)]
        · simp [hj]
          omega
      rw [this]
      rfl
    · intro again
      have e:((List.range 32).map fun i=>if i < 32 then zlv n i else 0)=(List.range 32).map (zlv n):=by
        apply List.map_congr_left; intro i hi; rw [if_pos (List.mem_range.1 hi)]
      dsimp only
      rw [e]
      simp
def secL (l:List Int) (n:Nat):List (List Int):=(List.range n).map fun (i:Nat)=>secN (l.getD i (3*(i:Int)))
theorem zto (l:List Int) (n:Nat):∀ x∈secL l n,Sec x:=by
  intro x hx; obtain ⟨i,_,rfl⟩:=List.mem_map.1 hx; exact zBn _
@[simp] theorem zEL (l:List Int) (n:Nat):(secL l n).length=n:=by simp [secL]
theorem zDc (ls:List (List Int)) (l:List Int):pL (fP ls)++[.sl .fresh (uL l)]=pL (fP (ls++[l])):=by simp [pL,fP]
theorem zko (tg:Tag) (l:List Int) {n:Nat} (hn:n < 100000):zaj [.sl tg (intL l),.int .i64 n]=some (.sl .own (pL (fP (secL l n)))):=by
  rw [ziq,zjC]
  unfold zd2
  let st:Nat→(List D×Int×List D×Int×PUnit)×PUnit:=fun k=>((intL l,(n:Int),pL (fP (secL l k)),(k:Int),PUnit.unit),PUnit.unit)
  show zcc _ (st 0)=_
  refine zb0 st n hn ?_ ?_
  · intro again k hk
    dsimp only [st]
    have hd:decide ((k:Int) < (n:Int))=true:=by simp; omega
    have hs:secL l (k+1)=secL l k++[secN (l.getD k (3*(k:Int)))]:=by unfold secL; rw [List.range_succ,List.map_append]; rfl
    rw [hd,zaY,zaN,zft,hs,←zDc]
    by_cases hkl:k < l.length
    · have hd2:decide ((k:Int) < (l.length:Int))=true:=by simp; omega
      have hg:l.getD k (3*(k:Int))=l[k]:=by simp [List.getD_eq_getElem?_getD,hkl]
      rw [hd2,zaY,zab (by omega),zan (by simpa using zAH hkl),zbE,zqy,zag,zbV,zab (by omega),zab (by simp; omega),zab (by rfl),zaN,zaq (n:=(k:Int)+1) (by omega) (by omega),zc3,zab (by simp),hg]
      rfl
    · have hd2:decide ((k:Int) < (l.length:Int))=false:=by simp; omega
      have hg:l.getD k (3*(k:Int))=3*(k:Int):=by simp [List.getD_eq_getElem?_getD,List.getElem?_eq_none (show l.length≤k by omega)]
      rw [hd2,zaw,zaq (n:=3*(k:Int)) (by omega) (by omega),zqy,zag,zbV,zab (by omega),zab (by simp; omega),zab (by rfl),zaN,zaq (n:=(k:Int)+1) (by omega) (by omega),zc3,zab (by simp),hg]
      rfl
  · intro again
    dsimp only [st]
    have hd:decide ((n:Int) < (n:Int))=false:=by simp
    rw [hd,zaw,zab (by rfl),zab (zfr _)]
def zkL (b:Nat) (k:Nat) (s:Nat×Nat):Nat×Nat:=
  (if 255 < s.1*2 then (s.1*2) ^^^ 285 else s.1*2,if b / 2 ^ k % 2=1 then s.2 ^^^ s.1 else s.2)
def zcu (a b:Nat):Nat→Nat×Nat
  | 0=>(a,0)
  | k+1=>zkL b k (zcu a b k)
theorem zDd {m n k:Nat} (hm:m < 2 ^ k) (hn:n < 2 ^ k):m ^^^ n < 2 ^ k:=Nat.xor_lt_two_pow hm hn
theorem zEq (m n:Nat) (hm:m < 1024) (hn:n < 1024):bits .xor .i64 (m:Int) (n:Int)=((m ^^^ n:Nat):Int):=by
  have h:m ^^^ n < 2 ^ 10:=zDd (by omega) (by omega)
  have e:((BitVec.ofInt 64 (m:Int)) ^^^ (BitVec.ofInt 64 (n:Int))).toNat=m ^^^ n:=by
    rw [BitVec.toNat_xor]
    simp [Nat.mod_eq_of_lt (show m < 18446744073709551616 by omega),Nat.mod_eq_of_lt (show n < 18446744073709551616 by omega)]
  show IntKind.i64.wrap (((BitVec.ofInt 64 (m:Int)) ^^^ (BitVec.ofInt 64 (n:Int))).toNat:Int)=_
  rw [e]
  exact zaq (by omega) (by omega)
theorem zqz {a b:Nat} (ha:a < 256) (hb:b < 256):∀ k,k≤8→(zec a b k).1=((zcu a b k).1:Int)∧(zec a b k).2=((zcu a b k).2:Int)∧(zcu a b k).1 < 256∧(zcu a b k).2 < 256
  | 0,_=>⟨zaq (by omega) (by omega),rfl,ha,by show 0 < 256; omega⟩
  | k+1,hk=>by
    obtain ⟨h1,h2,h3,h4⟩:=zqz ha hb k (by omega)
    have w:IntKind.i64.wrap (((zcu a b k).1:Int)*2)=(((zcu a b k).1*2:Nat):Int):=by rw [zaq (by omega) (by omega)]; omega
    have hx:(zcu a b k).2 ^^^ (zcu a b k).1 < 256:=zmF h4 h3
    have hbk:bits .and .u8 ((b:Int).fdiv (2 ^ min k 8)) 1=((b / 2 ^ k % 2:Nat):Int):=by
      have e:((b:Int).fdiv (2 ^ min k 8))=((b / 2 ^ k:Nat):Int):=by
        rw [show min k 8=k by omega,Int.fdiv_eq_ediv_of_nonneg _ (by exact_mod_cast Nat.zero_le (2 ^ k))]
        simp
      rw [e]
      exact and1 _ (Nat.lt_of_le_of_lt (Nat.div_le_self _ _) hb)
    have hd:∀ x < 256,255 < x*2→(x*2) ^^^ 285 < 256:=by decide+kernel
    show (zoc b k (zec a b k)).1=((zkL b k (zcu a b k)).1:Int)∧(zoc b k (zec a b k)).2=((zkL b k (zcu a b k)).2:Int)∧(zkL b k (zcu a b k)).1 < 256∧(zkL b k (zcu a b k)).2 < 256
    unfold zoc zkL
    rw [h1,h2,hbk,w,zEq _ _ (by omega) (by omega)]
    have hx2:=zEq ((zcu a b k).1*2) 285 (by omega) (by omega)
    refine ⟨?_,?_,?_,?_⟩
    · dsimp only
      split
      · rw [if_pos (by omega)]; exact hx2
      · rw [if_neg (by omega)]
    · dsimp only
      split
      · rw [if_pos (by omega)]
      · rw [if_neg (by omega)]
    · dsimp only
      split
      · exact hd _ h3 (by assumption)
      · omega
    · dsimp only
      split
      · exact hx
      · exact h4
theorem zr2 {a b:Nat} (ha:a < 256) (hb:b < 256):zeD a b=((zcu a b 8).2:Int)∧(zcu a b 8).2 < 256:=by
  obtain ⟨_,h2,_,h4⟩:=zqz ha hb 8 (Nat.le_refl _)
  unfold zeD
  rw [h2]
  exact ⟨zvy (by omega) (by omega),h4⟩
def zod:Nat→Nat
  | 0=>1
  | k+1=>(zcu (zod k) 2 8).2
theorem zr3:∀ k,zdN k=(zod k:Int)∧zod k < 256
  | 0=>⟨rfl,by decide⟩
  | k+1=>by
    obtain ⟨h1,h2⟩:=zr3 k
    show zeD (zdN k) 2=((zcu (zod k) 2 8).2:Int)∧(zcu (zod k) 2 8).2 < 256
    have:=zr2 h2 (show 2 < 256 by omega)
    rw [show ((2:Nat):Int)=2 from rfl] at this
    rw [h1]; exact this
theorem zu0:∀ k < 7,∀ x < 256,(zcu x (zod k) 8).2=mN x (powN k):=by decide+kernel
theorem zv7 {x:Int} (h:Byt x) {k:Nat} (hk:k < 7):zeD x (zdN k)=mul8 x (pow8 k):=by
  obtain ⟨m,hm,rfl⟩:=zen h
  obtain ⟨h1,h2⟩:=zr3 k
  have e1:=(zr2 hm h2).1
  have e2:=(zdT hm (zhh k)).1
  have e3:=zu0 k hk m hm
  rw [h1,zkF,e1,e2,e3]
theorem zzU {F:Nat→Int→Int} {f:Nat→Int} {ls:List (List Int)} (h:∀ l∈ls,Sec l) (hF:∀ k x,k < ls.length→Byt x→F k x=mul8 x (f k)):∀ {k:Nat},k≤ls.length→sumR F 32 ls k=sumK f 32 ls k
  | 0,_=>rfl
  | k+1,hk=>by
    have hs:=h _ (zds (show k < ls.length by omega))
    show List.zipWith (fun a x=>xor8 a (F k x)) (sumR F 32 ls k) (ls.getD k [])=List.zipWith xor8 (sumK f 32 ls k) ((ls.getD k []).map (mul8 · (f k)))
    rw [zzU h hF (by omega),List.zipWith_map_right]
    apply List.ext_getElem?
    intro i
    rw [List.getElem?_zipWith,List.getElem?_zipWith]
    cases e1:(sumK f 32 ls k)[i]? with
    | none=>rfl
    | some a=>
      cases e2:(ls.getD k [])[i]? with
      | none=>rfl
      | some x=>simp only; rw [hF k x (by omega) (hs.byt x (List.mem_of_getElem? e2))]
theorem zBo {ls:List (List Int)} (h:∀ l∈ls,Sec l):refP 32 ls=sumP 32 ls:=by
  have:=zzU (F:=fun _ x=>x) (f:=fun _=>1) h (fun _ x _ hx=>(zo3 hx).symm) (Nat.le_refl ls.length)
  exact this
theorem zBp {ls:List (List Int)} (h:∀ l∈ls,Sec l) (h7:ls.length≤7):refQ 32 ls=sumQ 32 ls:=by
  have:=zzU (F:=fun k x=>zeD x (zdN k)) (f:=pow8) h (fun k x hk hx=>zv7 hx (by omega)) (Nat.le_refl ls.length)
  exact this
end Wf

namespace Wf
open Go Go.RowKit Go.Proofs
set_option linter.unusedSimpArgs false
set_option linter.unusedVariables false
set_option maxHeartbeats 4000000
section
variable (g:Geo) (row k n:Int)
theorem zme:zcr [.agg [.int .i64 g.l,.int .i64 g.d,.int .i64 g.c],.int .i64 row]=some (.bool (zcw g row)):=by
  rw [zvR]
  unfold zs0
  rw [show D.agg [.int .i64 g.l,.int .i64 g.d,.int .i64 g.c]=gD g.l g.d g.c from rfl,zh3,zag]
  show asI IntKind.i64 (.int .i64 _) _=_
  rw [zbE]
  unfold zcw
  cases h:g.ok
  · have:ze2 g.l g.d g.c=false:=h
    simp [this]
  · have:ze2 g.l g.d g.c=true:=h
    by_cases h0:0≤row
    · simp [this,h0]
    · simp [this,h0]
theorem zkM:zaG [.agg [.int .i64 g.l,.int .i64 g.d,.int .i64 g.c],.int .i64 row]=some (.tup [.int .i64 (parP g row).1,.int .i64 (parP g row).2]):=zuR g row
theorem zqA:zbg [.agg [.int .i64 g.l,.int .i64 g.d,.int .i64 g.c],.int .i64 row,.int .i64 k]=some (.int .i64 (zdu g row k)):=zxT g row k
theorem zkN:zaM [.agg [.int .i64 g.l,.int .i64 g.d,.int .i64 g.c]]=some (.int .i64 g.width):=zuQ g
theorem zzV:zbb [.agg [.int .i64 g.l,.int .i64 g.d,.int .i64 g.c],.int .i64 row,.int .i64 k]=some (.int .i64 (zdu g row k)):=zBb g row k
theorem zw7:zax [.agg [.int .i64 g.l,.int .i64 g.d,.int .i64 g.c],.int .i64 row]=some (.tup [.int .i64 (parP g row).1,.int .i64 (parP g row).2]):=zzF g row
theorem zqB:zap [.agg [.int .i64 g.l,.int .i64 g.d,.int .i64 g.c],.int .i64 row]=some (.bool (zcw g row)):=ztj g row
theorem zgi:zac [.agg [.int .i64 g.l,.int .i64 g.d,.int .i64 g.c]]=some (.int .i64 g.width):=zrZ g
end
def zgR (g:Geo) (row:Int) (ls:List (List Int)):Nat→List Part
  | 0=>List.replicate g.d.toNat (Tag.nil,[])
  | k+1=>(zgR g row ls k).set (zdu g row (k:Int)).toNat (Tag.fresh,ls.getD k [])
def zxX (g:Geo) (row:Int) (ls:List (List Int)) (p q:List Int):List Part:=
  if (parP g row).2 < 0 then (zgR g row ls g.width.toNat).set (parP g row).1.toNat (Tag.fresh,p)
  else ((zgR g row ls g.width.toNat).set (parP g row).1.toNat (Tag.fresh,p)).set (parP g row).2.toNat (Tag.fresh,q)
theorem zeZ (g:Geo) (row:Int) (ls:List (List Int)) (k:Nat):(zgR g row ls k).length=g.d.toNat:=by
  induction k with
  | zero=>simp [zgR]
  | succ k ih=>simp [zgR,ih]
theorem zr4 (g:Geo) (row:Int) (ls:List (List Int)) (k:Nat):∀ x∈zgR g row ls k,Part.free x=true:=by
  induction k with
  | zero=>intro x hx; rw [(List.mem_replicate.1 hx).2]; rfl
  | succ k ih=>
    intro x hx
    rcases List.mem_or_eq_of_mem_set hx with hx | hx
    · exact ih x hx
    · rw [hx]; rfl
theorem zpa {ps:List Part} (h:∀ x∈ps,Part.free x=true) (i:Nat) (l:List Int):∀ x∈ps.set i (Tag.fresh,l),Part.free x=true:=by
  intro x hx
  rcases List.mem_or_eq_of_mem_set hx with hx | hx
  · exact h x hx
  · rw [hx]; rfl
theorem ziJ (t:Tag) (l:List D):D.isAgg (.sl t l)=false:=rfl
theorem zw8 (n:Nat):pL (List.replicate n (Tag.nil,[]))=List.replicate n (D.sl .nil []):=by simp [pL,uL]
section
variable {g:Geo} {row:Int} (h:zcw g row=true)
include h
theorem zw9 {ls:List (List Int)} {d:Int} (d0:0≤d) (d1:d < g.d) (h1:d≠(parP g row).1) (h2:d≠(parP g row).2):∀ k:Nat,(k:Int)≤g.width→
    (zgR g row ls k)[d.toNat]? =some (if zfe g d row < k then (Tag.fresh,ls.getD (zfe g d row).toNat []) else (Tag.nil,[]))
  | 0,_=>by
    obtain ⟨c0,c1,c2⟩:=zkJ h d0 d1 h1 h2
    unfold zgR
    rw [List.getElem?_replicate,if_pos (by omega),if_neg (by omega)]
  | k+1,hk=>by
    obtain ⟨c0,c1,c2⟩:=zkJ h d0 d1 h1 h2
    have hdi:=zlN h (k:=(k:Int)) (by omega) (by omega)
    have ih:=zw9 (ls:=ls) d0 d1 h1 h2 k (by omega)
    unfold zgR
    rw [List.getElem?_set]
    by_cases e:zfe g d row=k
    · have e2:zdu g row k=d:=by rw [←e]; exact c2
      rw [if_pos (by rw [e2]),if_pos (by rw [zeZ,e2]; omega),if_pos (by omega)]
      congr 3
      rw [e]; rfl
    · have e2:zdu g row k≠d:=fun e2=>e (zuB h c0 c1 (by omega) (by omega) (by rw [c2,e2]))
      rw [if_neg (by omega),ih]
      by_cases hlt:zfe g d row < k
      · rw [if_pos hlt,if_pos (by omega)]
      · rw [if_neg hlt,if_neg (by omega)]
theorem zr5 (ls:List (List Int)) (p q:List Int) (hp:p=sumP 32 ls) (hq:q=sumQ 32 ls∨g.l=5):zxX g row ls p q=fP (zcL g row ls):=by
  obtain ⟨hk,r0,r1⟩:=zbT.1 h
  have hw:=zdW hk
  obtain ⟨p0,p1,p2⟩:=zp9 h
  have hpq:=zBT h
  have hlen:(zxX g row ls p q).length=g.d.toNat:=by unfold zxX; split<;>simp [zeZ]
  apply List.ext_getElem?
  intro i
  by_cases hi:i < g.d.toNat
  · have hr:(fP (zcL g row ls))[i]? =some (Tag.fresh,atR g row ls i):=zw2 (zkK (by omega))
    rw [hr]
    have hbase:∀ d:Int,0≤d→d < g.d→d≠(parP g row).1→d≠(parP g row).2→(zgR g row ls g.width.toNat)[d.toNat]? =some (Tag.fresh,atR g row ls d):=by
      intro d d0 d1 n1 n2
      obtain ⟨c0,c1,c2⟩:=zkJ h d0 d1 n1 n2
      rw [zw9 h d0 d1 n1 n2 _ (by omega),if_pos (by omega)]
      unfold atR
      rw [if_neg n1,if_neg n2]
    unfold zxX
    by_cases e1:(i:Int)=(parP g row).1
    · have ha:atR g row ls i=p:=by rw [e1,at_p h,hp]
      rw [ha]
      split
      · rw [List.getElem?_set,if_pos (by omega),if_pos (by rw [zeZ]; omega)]
      · rw [List.getElem?_set,if_neg (by omega),List.getElem?_set,if_pos (by omega),if_pos (by rw [zeZ]; omega)]
    · by_cases e2:(i:Int)=(parP g row).2
      · have ha:atR g row ls i=sumQ 32 ls:=by rw [e2,at_q h]
        have h6:¬ (parP g row).2 < 0:=by omega
        rw [ha,if_neg h6,List.getElem?_set,if_pos (by omega),if_pos (by rw [List.length_set,zeZ]; omega)]
        rcases hq with hq | hq
        · rw [hq]
        · rcases p2 with ⟨e,_⟩ | ⟨_,_,e⟩<;>omega
      · have:=hbase i (by omega) (by omega) e1 e2
        rw [Int.toNat_natCast] at this
        split
        · rw [List.getElem?_set,if_neg (by omega),this]
        · rw [List.getElem?_set,if_neg (by omega),List.getElem?_set,if_neg (by omega),this]
  · rw [List.getElem?_eq_none (by omega),List.getElem?_eq_none (by simp [znI]; omega)]
end
theorem zBq (t:Tag) (l:List Int):zao [.sl t (uL l)]=some (.bool (!decide (l.length=32))):=by
  rw [zm6,zcN]
  unfold zgL
  simp only [zdt]
  congr 2
  by_cases h:l.length=32
  · simp [h]
  · simp [h]; omega
theorem zoe (tg:Tag) (ps:List Part) (hn:ps.length < 100000):
    ∃ r,zah [.sl tg (pL ps),.fn ID.row_sectors_1 [] []]=some r∧∃ i:Int,r=.int .i64 i∧decide (i≥0)= !(ps.all fun x=>decide (x.2.length=32)):=by
  rw [zdx,zcA]
  have hm:(ps.all fun x=>decide (x.2.length=32))=((ps.map fun x=>(zbJ x.1 x.2,x.2)).all fun x=>decide (x.2.length=32)):=by rw [List.all_map]; rfl
  have hlen:(ps.map fun x=>(zbJ x.1 x.2,x.2)).length=ps.length:=by simp
  rw [hm]
  rw [←hlen] at hn
  generalize (ps.map fun x=>(zbJ x.1 x.2,x.2))=rs at*
  unfold zbW
  refine zwN (fun a=>(rs.length:Nat) - a.1.2.2.1.toNat) (fun r=>∃ i:Int,r=D.int .i64 i∧decide (i≥0)= !(rs.all fun x=>decide (x.2.length=32)))
    (fun a=>∃ k:Nat,k≤rs.length∧((rs.take k).all fun x=>decide (x.2.length=32))=true∧a=((pL rs,(rs.length:Int),(k:Int),PUnit.unit),PUnit.unit)) ?_ ⟨0,by omega,by simp,by rw [zr1]; rfl⟩ (by simp; omega)
  rintro again _ ⟨k,hk,he,rfl⟩ hag
  dsimp only
  by_cases hkm:k < rs.length
  · obtain ⟨x,hx⟩:∃ x,rs[k]? =some x:=⟨_,List.getElem?_eq_getElem hkm⟩
    have hd:decide ((k:Int) < (rs.length:Int))=true:=by simp; omega
    rw [hd,zaY,zab (by omega),zan (by simpa using zct hx),zeK,zBq,zag,zcU]
    by_cases hf:x.2.length=32
    · simp only [hf,decide_true,Bool.not_true,zaw,zaN]
      rw [zaq (by omega) (by omega)]
      refine hag _ ⟨k+1,by omega,?_,rfl⟩ (by simp; omega)
      rw [List.take_add_one,hx,List.all_append,he]
      simp [hf]
    · simp only [hf,decide_false,Bool.not_false,zaY]
      refine ⟨_,rfl,_,rfl,?_⟩
      have:(rs.all fun x=>decide (x.2.length=32))=false:=by
        rw [List.all_eq_false]
        exact ⟨x,List.mem_of_getElem? hx,by simp [hf]⟩
      rw [this]
      simp
  · have hd:decide ((k:Int) < (rs.length:Int))=false:=by simp; omega
    rw [hd,zaw]
    refine ⟨_,rfl,_,rfl,?_⟩
    rw [List.take_of_length_le (by omega)] at he
    rw [he]
    rfl
theorem row_sectors (tg:Tag) (ps:List Part) (hn:ps.length < 100000):zb2 [.sl tg (pL ps)]=some (.bool (ps.all fun x=>decide (x.2.length=32))):=by
  rw [zoX,zcA]
  have hm:(ps.all fun x=>decide (x.2.length=32))=((ps.map fun x=>(zbJ x.1 x.2,x.2)).all fun x=>decide (x.2.length=32)):=by rw [List.all_map]; rfl
  have hlen:(ps.map fun x=>(zbJ x.1 x.2,x.2)).length=ps.length:=by simp
  rw [hm]
  rw [←hlen] at hn
  generalize (ps.map fun x=>(zbJ x.1 x.2,x.2))=rs at*
  unfold ziG
  have:zae [.sl .lent (pL rs),.fn ID.row_sectors_1 [] []]=some (.bool (!(rs.all fun x=>decide (x.2.length=32)))):=by
    rw [zdh,zcA]
    have hm:(rs.all fun x=>decide (x.2.length=32))=((rs.map fun x=>(zbJ x.1 x.2,x.2)).all fun x=>decide (x.2.length=32)):=by rw [List.all_map]; rfl
    have hlen:(rs.map fun x=>(zbJ x.1 x.2,x.2)).length=rs.length:=by simp
    rw [hm]
    rw [←hlen] at hn
    generalize (rs.map fun x=>(zbJ x.1 x.2,x.2))=qs at*
    unfold zbO
    obtain ⟨r,h1,i,rfl,h2⟩:=zoe .lent qs hn
    rw [h1,zag,zbE,h2]
  rw [this,zag,zcU,Bool.not_not]
theorem zBr (g:Geo) (row:Int) (tg:Tag) {ps:List Part} (hn:ps.length < 100000):
    zcR [.agg [.int .i64 g.l,.int .i64 g.d,.int .i64 g.c],.int .i64 row,.sl tg (pL ps)]=some (solD (zsW g row (ps.map (·.2)))):=by
  rw [zti,zcA]
  have hlen:(ps.map fun x=>(zbJ x.1 x.2,x.2)).length=ps.length:=by simp
  have hm:(ps.map fun x=>(zbJ x.1 x.2,x.2)).map (·.2)=ps.map (·.2):=by rw [List.map_map]; rfl
  rw [←hlen] at hn
  rw [←hm]
  generalize (ps.map fun x=>(zbJ x.1 x.2,x.2))=rs at*
  clear hm hlen ps
  unfold zn2 zsW
  cases h:zcw g row
  · simp [zme,h,solD]
  by_cases hl:(rs.length:Int)=g.width
  · have hall:((rs.map (·.2)).all fun x=>decide (x.length=32))=(rs.all fun x=>decide (x.2.length=32)):=by rw [List.all_map]; rfl
    rw [hall]
    cases hs:(rs.all fun x=>decide (x.2.length=32))
    · simp [zme,h,solD,zkN,hl,row_sectors _ _ hn,hs]
    · have hl':∀ x∈rs,x.2.length=32:=fun x hx=>by rw [List.all_eq_true] at hs; simpa using hs x hx
      rw [if_pos ⟨rfl,by simp [hl],rfl⟩]
      obtain ⟨hk,r0,r1⟩:=zbT.1 h
      have hw:=zdW hk
      have hdd:=ok_d hk
      have hb:((((pL rs).length:Nat):Int) != g.width)=false:=by simp [hl]
      have hrl:rs.length=g.width.toNat:=by omega
      rw [zme,zag,zcU,h,Bool.not_true,zaw,zkN,zag,zbE,hb,zaw,row_sectors _ _ hn,zag,zcU,hs,Bool.not_true,zaw,zab (by omega),zab (by rfl),zab (by omega),zab (by omega),zab (by simp)]
      let st:Nat→(Int×List D×(Int×Int×Int×PUnit)×List D×List D×Int×Int×PUnit)×PUnit:=fun k=>((row,pL rs,(g.l,g.d,g.c,PUnit.unit),pL (zgR g row (rs.map (·.2)) k),pL rs,((pL rs).length:Int),(k:Int),PUnit.unit),PUnit.unit)
      have hst:st 0=((row,pL rs,(g.l,g.d,g.c,PUnit.unit),List.replicate g.d.toNat (D.sl .nil []),pL rs,((pL rs).length:Int),0,PUnit.unit),PUnit.unit):=by
        simp only [st,zgR,zw8]; rfl
      rw [←hst]
      refine zcF st rs.length (by omega) ?_ ?_
      · intro again k hk'
        dsimp only [st]
        obtain ⟨x,hx⟩:∃ x,rs[k]? =some x:=⟨_,List.getElem?_eq_getElem hk'⟩
        have hxs:=hl' x (List.mem_of_getElem? hx)
        have hxe:rs[k]=x:=by rw [List.getElem?_eq_getElem hk'] at hx; exact Option.some.inj hx
        have hdi:=zlN h (k:=(k:Int)) (by omega) (by omega)
        have hfl:=zeZ g row (rs.map (·.2)) k
        obtain ⟨y,hy⟩:∃ y,(zgR g row (rs.map (·.2)) k)[(zdu g row (k:Int)).toNat]? =some y:=⟨_,List.getElem?_eq_getElem (by omega)⟩
        have hgd:(rs.map (·.2)).getD k []=x.2:=by simp [List.getD_eq_getElem?_getD,hx]
        have hgx:(pL rs)[k]? =some (.sl x.1 (uL x.2)):=zct hx
        have hlt:(zdu g row (k:Int)).toNat < g.d.toNat:=by omega
        simp (disch:=first | omega | assumption | (simp; done) | fail) [-List.all_eq_true,hk',zan hgx,zqA,zqw (show x.2.length≤4294967296 by omega),hdi.1,hfl,hlt,zan (zct hy),ziJ,zaq,zoF,zgR]
        rw [hxe]
      · intro again
        dsimp only [st]
        obtain ⟨p0,p1,p2⟩:=zp9 h
        have hfl:=zeZ g row (rs.map (·.2)) rs.length
        obtain ⟨y,hy⟩:∃ y,(zgR g row (rs.map (·.2)) rs.length)[(parP g row).1.toNat]? =some y:=⟨_,List.getElem?_eq_getElem (by omega)⟩
        have hrp:=zzN (n:=32) .lent (ps:=rs) (by omega) (by omega) (by omega) hl'
        have hrq:=zzO (n:=32) .lent (ps:=rs) (by omega) (by omega) (by omega) hl'
        have hff:=zr5 h (rs.map (·.2)) (sumP 32 (rs.map (·.2))) (sumQ 32 (rs.map (·.2))) rfl (.inl rfl)
        have hfree:=zpa (zr4 g row (rs.map (·.2)) rs.length) (parP g row).1.toNat (sumP 32 (rs.map (·.2)))
        have hfree2:=zpa hfree (parP g row).2.toNat (sumQ 32 (rs.map (·.2)))
        have hlt:(parP g row).1.toNat < g.d.toNat:=by omega
        unfold zxX at hff
        rw [←hrl] at hff
        rcases p2 with ⟨p2,_⟩ | ⟨q0,q1,_⟩
        · rw [if_pos (by omega)] at hff
          have hq:¬ (0≤(parP g row).2):=by omega
          simp (disch:=first | omega | assumption | (simp; done) | fail) [-List.all_eq_true,zkM,hrp,p0,hfl,hlt,zan (zct hy),ziJ,hq,zoF,zkn hfree,solD,hff,zfr]
        · rw [if_neg (by omega)] at hff
          have hlt2:(parP g row).2.toNat < g.d.toNat:=by omega
          obtain ⟨z,hz⟩:∃ z,((zgR g row (rs.map (·.2)) rs.length).set (parP g row).1.toNat (Tag.fresh,sumP 32 (rs.map (·.2))))[(parP g row).2.toNat]? =some z:=⟨_,List.getElem?_eq_getElem (by simp [hfl]; omega)⟩
          simp (disch:=first | omega | assumption | (simp; done) | fail) [-List.all_eq_true,zkM,hrp,hrq,p0,q0,hfl,hlt,hlt2,zan (zct hy),zan (zct hz),ziJ,zoF,zkn hfree,zkn hfree2,solD,hff,zfr]
  · have h2:¬ (true=true∧(((rs.map (·.2)).length:Nat):Int)=g.width∧((rs.map (·.2)).all fun x=>decide (x.length=32))=true):=by rintro ⟨_,e,_⟩; simp at e; exact hl e
    rw [if_neg h2]
    simp [zme,h,solD,zkN,hl]
end Wf

namespace Wf
open Go Go.RowKit Go.Proofs
set_option linter.unusedSimpArgs false
set_option linter.unusedVariables false
set_option maxHeartbeats 4000000
def zfv (g:Geo) (row:Int) (rs:List Part) (k:Nat):List Part:=(List.range k).map fun (j:Nat)=>rs.getD (zdu g row (j:Int)).toNat (.nil,[])
theorem zu1 (g:Geo) (row:Int) (rs:List Part):(zfv g row rs g.width.toNat).map (·.2)=zgw g row (rs.map (·.2)):=by
  unfold zfv zgw
  rw [List.map_map]
  apply List.map_congr_left
  intro j _
  simp [List.getD_eq_getElem?_getD]
  cases rs[(zdu g row (j:Int)).toNat]? <;>rfl
theorem ztp (g:Geo) (row:Int) (rs:List Part) {k:Nat} {x:Part} (h:rs[(zdu g row (k:Int)).toNat]? =some x):zfv g row rs (k+1)=zfv g row rs k++[x]:=by
  unfold zfv
  rw [List.range_succ,List.map_append]
  simp [List.getD_eq_getElem?_getD,h]
theorem zqC {R:Type} (a b:D) (f:LfT [.any,.any]→Option R):zay [.any,.any] [a,b] f=f (a,b,()):=by rw [zeA,zeA,zg5]
theorem zBs (g:Geo) (row:Int) (tg:Tag) {ps:List Part} (hn:ps.length < 100000):
    zcQ [.agg [.int .i64 g.l,.int .i64 g.d,.int .i64 g.c],.int .i64 row,.sl tg (pL ps)]=some (solD (zxL g row (ps.map (·.2)))):=by
  rw [zte,zcA]
  have hm:(ps.map fun x=>(zbJ x.1 x.2,x.2)).map (·.2)=ps.map (·.2):=by rw [List.map_map]; rfl
  have hlen:(ps.map fun x=>(zbJ x.1 x.2,x.2)).length=ps.length:=by simp
  rw [←hm]
  rw [←hlen] at hn
  generalize (ps.map fun x=>(zbJ x.1 x.2,x.2))=rs at*
  clear hm hlen ps
  unfold znZ zxL
  cases h:zcw g row
  · simp [zme,h,solD]
  by_cases hl:(rs.length:Int)=g.d
  · rw [if_pos ⟨rfl,by simp [hl]⟩]
    have hk:=(zbT.1 h).1
    have hw:=zdW hk
    have hdd:=ok_d hk
    have hb:((((pL rs).length:Nat):Int) != g.d)=false:=by simp [hl]
    rw [zme,zag,zcU,h,Bool.not_true,zaw,hb,zaw,zkN,zag,zbE]
    let st:Nat→(Int×List D×(Int×Int×Int×PUnit)×List D×Int×Int×PUnit)×PUnit:=fun k=>((row,pL rs,(g.l,g.d,g.c,PUnit.unit),pL (zfv g row rs k),g.width,(k:Int),PUnit.unit),PUnit.unit)
    have hst:st 0=((row,pL rs,(g.l,g.d,g.c,PUnit.unit),[],g.width,0,PUnit.unit),PUnit.unit):=rfl
    rw [←hst]
    refine zcF st g.width.toNat (by omega) ?_ ?_
    · intro again k hk'
      dsimp only [st]
      have hd:(k:Int) < g.width:=by omega
      have hdi:=zlN h (k:=(k:Int)) (by omega) (by omega)
      obtain ⟨x,hx⟩:∃ x,rs[(zdu g row (k:Int)).toNat]? =some x:=⟨_,List.getElem?_eq_getElem (by omega)⟩
      have hpl:(zfv g row rs k).length=k:=by simp [zfv]
      simp (disch:=first | omega | assumption | (simp; done) | fail) [-List.all_eq_true,hd,zqA,hdi.1,zan (zct hx),hpl,zaq,zzM,ztp g row rs hx]
    · intro again
      dsimp only [st]
      have hd:¬ ((g.width.toNat:Nat):Int) < g.width:=by omega
      obtain ⟨p0,p1,p2⟩:=zp9 h
      obtain ⟨xp,hxp⟩:∃ x,rs[(parP g row).1.toNat]? =some x:=⟨_,List.getElem?_eq_getElem (by omega)⟩
      have hpo:pOf g row (rs.map (·.2))=xp.2:=by unfold pOf; simp [List.getD_eq_getElem?_getD,hxp]
      have hrl:(zfv g row rs g.width.toNat).length < 100000:=by simp [zfv]; omega
      have hsol:=fun tq q=>zBm xp.1 tq .lent xp.2 q hrl
      rw [zu1] at hsol
      rw [hpo]
      rcases p2 with ⟨p2,_⟩ | ⟨q0,q1,_⟩
      · have hqo:qOf g row (rs.map (·.2))=[]:=by unfold qOf; rw [if_pos (by omega)]
        have hq:(parP g row).2 < 0:=by omega
        have hs:=hsol .nil []
        rw [show uL []=([]:List D) from rfl] at hs
        rw [hqo]
        simp (disch:=first | omega | assumption | (simp; done) | fail) [-List.all_eq_true,ztm,hd,zkM,hq,p0,zan (zct hxp),hs]
        cases zp1 xp.2 [] (zgw g row (rs.map (·.2)))<;>simp [-List.all_eq_true,solD,zfr]
      · obtain ⟨xq,hxq⟩:∃ x,rs[(parP g row).2.toNat]? =some x:=⟨_,List.getElem?_eq_getElem (by omega)⟩
        have hqo:qOf g row (rs.map (·.2))=xq.2:=by unfold qOf; rw [if_neg (by omega)]; simp [List.getD_eq_getElem?_getD,hxq]
        have hq:¬ (parP g row).2 < 0:=by omega
        rw [hqo]
        simp (disch:=first | omega | assumption | (simp; done) | fail) [-List.all_eq_true,ztm,hd,zkM,hq,p0,q0,zan (zct hxp),zan (zct hxq),hsol]
        cases zp1 xp.2 xq.2 (zgw g row (rs.map (·.2)))<;>simp [-List.all_eq_true,solD,zfr]
  · have h2:¬ (true=true∧(((rs.map (·.2)).length:Nat):Int)=g.d):=by rintro ⟨_,e⟩; simp at e; exact hl e
    rw [if_neg h2]
    simp [zme,h,solD,hl]
theorem zBt (g:Geo) (row:Int) (tg:Tag) {ps:List Part} (hn:ps.length < 100000) (hs:∀ x∈ps,Sec x.2):
    zbk [.agg [.int .i64 g.l,.int .i64 g.d,.int .i64 g.c],.int .i64 row,.sl tg (pL ps)]=some (solD (zsW g row (ps.map (·.2)))):=by
  rw [zjS,zcA]
  have hlen:(ps.map fun x=>(zbJ x.1 x.2,x.2)).length=ps.length:=by simp
  have hm:(ps.map fun x=>(zbJ x.1 x.2,x.2)).map (·.2)=ps.map (·.2):=by rw [List.map_map]; rfl
  have hs':∀ x∈(ps.map fun x=>(zbJ x.1 x.2,x.2)),Sec x.2:=by intro x hx; obtain ⟨y,hy,rfl⟩:=List.mem_map.1 hx; exact hs y hy
  rw [←hlen] at hn
  rw [←hm]
  generalize (ps.map fun x=>(zbJ x.1 x.2,x.2))=rs at*
  clear hm hlen hs ps
  unfold zeP zsW
  have hsl:∀ x∈rs.map (·.2),Sec x:=by intro x hx; obtain ⟨y,hy,rfl⟩:=List.mem_map.1 hx; exact hs' y hy
  have hl':∀ x∈rs,x.2.length=32:=fun x hx=>(hs' x hx).len
  have hall:((rs.map (·.2)).all fun x=>decide (x.length=32))=true:=by rw [List.all_eq_true]; intro x hx; simpa using (hsl x hx).len
  cases h:zcw g row
  · simp [zqB,h,solD]
  by_cases hl:(rs.length:Int)=g.width
  · rw [if_pos ⟨rfl,by simp [hl],hall⟩]
    obtain ⟨hk,r0,r1⟩:=zbT.1 h
    have hw:=zdW hk
    have hdd:=ok_d hk
    have hb:((((pL rs).length:Nat):Int) != g.width)=false:=by simp [hl]
    have hrl:rs.length=g.width.toNat:=by omega
    rw [zqB,zag,zcU,h,Bool.not_true,zaw,zgi,zag,zbE,hb,zaw,zab (by omega),zab (by rfl),zab (by omega),zab (by omega),zab (by simp)]
    let st:Nat→(Int×List D×(Int×Int×Int×PUnit)×List D×List D×Int×Int×PUnit)×PUnit:=fun k=>((row,pL rs,(g.l,g.d,g.c,PUnit.unit),pL (zgR g row (rs.map (·.2)) k),pL rs,((pL rs).length:Int),(k:Int),PUnit.unit),PUnit.unit)
    have hst:st 0=((row,pL rs,(g.l,g.d,g.c,PUnit.unit),List.replicate g.d.toNat (D.sl .nil []),pL rs,((pL rs).length:Int),0,PUnit.unit),PUnit.unit):=by
      simp only [st,zgR,zw8]; rfl
    rw [←hst]
    refine zcF st rs.length (by omega) ?_ ?_
    · intro again k hk'
      dsimp only [st]
      obtain ⟨x,hx⟩:∃ x,rs[k]? =some x:=⟨_,List.getElem?_eq_getElem hk'⟩
      have hxs:=hl' x (List.mem_of_getElem? hx)
      have hxe:rs[k]=x:=by rw [List.getElem?_eq_getElem hk'] at hx; exact Option.some.inj hx
      have hdi:=zlN h (k:=(k:Int)) (by omega) (by omega)
      have hfl:=zeZ g row (rs.map (·.2)) k
      obtain ⟨y,hy⟩:∃ y,(zgR g row (rs.map (·.2)) k)[(zdu g row (k:Int)).toNat]? =some y:=⟨_,List.getElem?_eq_getElem (by omega)⟩
      have hgd:(rs.map (·.2)).getD k []=x.2:=by simp [List.getD_eq_getElem?_getD,hx]
      have hgx:(pL rs)[k]? =some (.sl x.1 (uL x.2)):=zct hx
      have hlt:(zdu g row (k:Int)).toNat < g.d.toNat:=by omega
      simp (disch:=first | omega | assumption | (simp; done) | fail) [-List.all_eq_true,hk',zan hgx,zzV,hxs,hdi.1,hfl,hlt,zan (zct hy),ziJ,zaq,zoF,zgR]
      rw [hxe]
    · intro again
      dsimp only [st]
      obtain ⟨p0,p1,p2⟩:=zp9 h
      have hfl:=zeZ g row (rs.map (·.2)) rs.length
      obtain ⟨y,hy⟩:∃ y,(zgR g row (rs.map (·.2)) rs.length)[(parP g row).1.toNat]? =some y:=⟨_,List.getElem?_eq_getElem (by omega)⟩
      have hrp:=zE8 (n:=32) .lent (ps:=rs) (by omega) (by omega) (by omega) hl'
      have hrq:=zE9 (n:=32) .lent (ps:=rs) (by omega) (by omega) (by omega) hl'
      rw [zBo hsl] at hrp
      rw [zBp hsl (by simp; omega)] at hrq
      have hff:=zr5 h (rs.map (·.2)) (sumP 32 (rs.map (·.2))) (sumQ 32 (rs.map (·.2))) rfl (.inl rfl)
      have hfree:=zpa (zr4 g row (rs.map (·.2)) rs.length) (parP g row).1.toNat (sumP 32 (rs.map (·.2)))
      have hfree2:=zpa hfree (parP g row).2.toNat (sumQ 32 (rs.map (·.2)))
      have hlt:(parP g row).1.toNat < g.d.toNat:=by omega
      unfold zxX at hff
      rw [←hrl] at hff
      rcases p2 with ⟨p2,_⟩ | ⟨q0,q1,_⟩
      · rw [if_pos (by omega)] at hff
        have hq:¬ (0≤(parP g row).2):=by omega
        simp (disch:=first | omega | assumption | (simp; done) | fail) [-List.all_eq_true,zw7,hrp,p0,hfl,hlt,zan (zct hy),ziJ,hq,zoF,zkn hfree,solD,hff,zfr]
      · rw [if_neg (by omega)] at hff
        have hlt2:(parP g row).2.toNat < g.d.toNat:=by omega
        obtain ⟨z,hz⟩:∃ z,((zgR g row (rs.map (·.2)) rs.length).set (parP g row).1.toNat (Tag.fresh,sumP 32 (rs.map (·.2))))[(parP g row).2.toNat]? =some z:=⟨_,List.getElem?_eq_getElem (by simp [hfl]; omega)⟩
        simp (disch:=first | omega | assumption | (simp; done) | fail) [-List.all_eq_true,zw7,hrp,hrq,p0,q0,hfl,hlt,hlt2,zan (zct hy),zan (zct hz),ziJ,zoF,zkn hfree,zkn hfree2,solD,hff,zfr]
  · have h2:¬ (true=true∧(((rs.map (·.2)).length:Nat):Int)=g.width∧((rs.map (·.2)).all fun x=>decide (x.length=32))=true):=by rintro ⟨_,e,_⟩; simp at e; exact hl e
    rw [if_neg h2]
    simp [zqB,h,solD,zgi,hl]
end Wf

namespace Wf
open Go Go.RowKit Go.Proofs
set_option linter.unusedSimpArgs false
set_option linter.unusedVariables false
set_option maxHeartbeats 4000000
theorem zof (live:List Bool):D.lentL (live.map D.bool)=live.map D.bool:=by
  induction live with
  | nil=>rfl
  | cons x l ih=>simp [ih]
theorem zqD (acts:Nat→List Act):∀ (n k:Nat) (B:Ben),runE (fun k B=>runA (acts k) B) k n B=runA ((List.range' k n).flatMap acts) B
  | 0,k,B=>rfl
  | n+1,k,B=>by
    rw [List.range'_succ,List.flatMap_cons,zp8]
    show (if (runA (acts k) B).1=0 then _ else _)=_
    rw [zqD acts n (k+1)]
theorem zpb (a:Act) (B:Ben):runA [a] B=B.act a:=by
  rw [zp7]
  by_cases h:(B.act a).1=0
  · rw [if_pos h]
    show (0,(B.act a).2)=B.act a
    rw [←h]
  · rw [if_neg h]
section
variable {B:Ben} {d a e:Int} {x:List Int}
theorem zqE {s:DS} (hd:B.is d=true) (hf:s.failed=(B.dk d).failed):(B.setD d s).failed e=B.failed e:=by
  unfold Ben.failed
  rw [zvM]
  cases he:B.is e
  · rfl
  · rw [zjH hd (zfQ.1 he).1]
    split
    · rename_i q; subst q; rw [hf]
    · rfl
theorem zxY (B:Ben) (d a:Int) (x:List Int):(B.write d a x).2.n=B.n∧∀ e,(B.write d a x).2.failed e=B.failed e:=by
  unfold Ben.write
  split
  · exact ⟨rfl,fun _=>rfl⟩
  · rename_i h0
    have hd:=(may0.1 (Classical.not_not.1 h0)).1
    split
    · exact ⟨rfl,fun _=>rfl⟩
    · split
      · exact ⟨rfl,fun _=>rfl⟩
      · exact ⟨by simp,fun e=>zqE (B:=(B.junk _).less) hd rfl⟩
theorem zxZ (hB:B.Ok) (d:Int):(B.flush d).2.n=B.n∧∀ e,(B.flush d).2.failed e=B.failed e:=by
  unfold Ben.flush
  split
  · exact ⟨rfl,fun _=>rfl⟩
  · rename_i h0
    have hd:=(may0.1 (Classical.not_not.1 h0)).1
    refine ⟨by simp,fun e=>zqE hd ?_⟩
    unfold DS.flush
    split
    · rfl
    · exact zln (znE hB d).1
def Like (B B':Ben):Prop:=B'.n=B.n∧∀ e,B'.failed e=B.failed e
theorem Like.refl (B:Ben):Like B B:=⟨rfl,fun _=>rfl⟩
theorem Like.trans {A B C:Ben} (h1:Like A B) (h2:Like B C):Like A C:=⟨h2.1.trans h1.1,fun e=>(h2.2 e).trans (h1.2 e)⟩
theorem Like.up {B B':Ben} (h:Like B B') (live:List Bool) (e:Int):B'.up live e=B.up live e:=by unfold Ben.up; rw [h.1,h.2]
end
section
variable {T0 T1:Tb} {b:Nat} {idx:List Nat} {B:Ben}
theorem zu2 (h:At T0 T1 b idx B) (hw:B.w≤999000) (tg:Tag) (live:List Bool) (g:Geo) (r:Int) (tg2:Tag) {ps:List Part} (hn:ps.length < 100000) (hs:∀ x∈ps,Sec x.2):
    zbL [.h kB b 0,.sl tg (live.map D.bool),.agg [.int .i64 g.l,.int .i64 g.d,.int .i64 g.c],.int .i64 r,.sl tg2 (pL ps)] [P0 T0 b idx B,P1 T1 idx B]=
      some (Ans.mk (.int .i64 (B.sWrite live g r (ps.map (·.2))).1) [] [P0 T0 b idx (B.sWrite live g r (ps.map (·.2))).2,P1 T1 idx (B.sWrite live g r (ps.map (·.2))).2]):=by
  rw [zn6,zof,zcA]
  have hlen:(ps.map fun x=>(zbJ x.1 x.2,x.2)).length=ps.length:=by simp
  have hm:(ps.map fun x=>(zbJ x.1 x.2,x.2)).map (·.2)=ps.map (·.2):=by rw [List.map_map]; rfl
  have hs':∀ x∈(ps.map fun x=>(zbJ x.1 x.2,x.2)),Sec x.2:=by intro x hx; obtain ⟨y,hy,rfl⟩:=List.mem_map.1 hx; exact hs y hy
  rw [←hlen] at hn
  rw [←hm]
  generalize (ps.map fun x=>(zbJ x.1 x.2,x.2))=rs at*
  clear hm hlen hs ps
  unfold zhs Ben.sWrite
  have hfill:=zBr g r .lent hn
  cases hf:zsW g r (rs.map (·.2)) with
  | none=>
    rw [hf] at hfill
    simp [hfill,solD]
  | some o=>
    have hf0:=hf
    unfold zsW at hf0
    split at hf0
    rotate_left
    · cases hf0
    rename_i hc
    obtain ⟨hr,hlw,hall⟩:=hc
    cases hf0
    have hR:Row g (rs.map (·.2)):=⟨hlw,by intro x hx; obtain ⟨y,hy,rfl⟩:=List.mem_map.1 hx; exact hs' y hy⟩
    generalize rs.map (·.2)=data at*
    rw [hf] at hfill
    obtain ⟨hk,r0,r1⟩:=zbT.1 hr
    have hdd:=ok_d hk
    rw [if_neg (by simp)]
    have hrl:=znI g r data
    let acts:Nat→List Act:=fun d=>if B.up live d then [.w d (36+r) (atR g r data d)] else []
    have hacts:B.wActs live g r data=(List.range' 0 g.d.toNat).flatMap acts:=by unfold Ben.wActs; rw [List.range_eq_range']
    rw [hacts,←zqD]
    let st:Nat→Ben→(Nat×List D×Int×List D×Int×Int×PUnit)×List (List D)×List (List D)×PUnit:=fun k B'=>((b,live.map D.bool,r,pL (fP (zcL g r data)),(g.d.toNat:Int),(k:Int),PUnit.unit),P0 T0 b idx B',P1 T1 idx B',PUnit.unit)
    have hst:st 0 B=((b,live.map D.bool,r,pL (fP (zcL g r data)),(g.d.toNat:Int),0,PUnit.unit),P0 T0 b idx B,P1 T1 idx B,PUnit.unit):=rfl
    simp (disch:=first | omega | assumption | (simp; done) | fail) only [hfill,solD,zag,zmD,zqC,zbV,zcU,Bool.not_true,zaw,zab,Nat.zero_add,Nat.le_refl,zr1,zzS,hrl]
    rw [←hst]
    refine zuv (fun k B'=>runA (acts k) B') (fun k B'=>Nx k B B'∧Like B B') st (fun y=>some (Ans.mk (.int .i64 y.1) [] [P0 T0 b idx y.2,P1 T1 idx y.2])) g.d.toNat (by omega) ⟨.rfl' h.ok (by omega),.refl B⟩ ?_ ?_ ?_
    · rintro k B' hk' ⟨hx,hL⟩ he
      dsimp only [acts] at he ⊢
      have hsec:=zzx hr hR (d:=(k:Int)) (by omega) (by omega)
      cases hu:B.up live (k:Int)
      · exact ⟨hx.mono (by omega),hL⟩
      · rw [if_pos rfl,zpb]
        exact ⟨(hx.trans (zAR hx.ok (.inl hsec))).mono (by omega),hL.trans (zxY ..)⟩
    · rintro again k B' hk' ⟨hx,hL⟩
      dsimp only [st]
      have hA:=h.nx hx
      have hxw:=hx.w
      have hw':B'.w≤1000000:=by omega
      have hg:(pL (fP (zcL g r data)))[k]? =some (.sl .fresh (uL (atR g r data k))):=zct (zw2 (zkK (by omega)))
      have hup:=zC6 hA .lent live (d:=(k:Int)) (by omega)
      rw [hL.up] at hup
      by_cases hu:B.up live (k:Int)=true
      rotate_left
      · have hu':B.up live (k:Int)=false:=by simpa using hu
        rw [hu'] at hup
        rw [show acts k=[] from if_neg hu]
        simp (disch:=first | omega | assumption | (simp; done) | fail) [hk',hrl,zan hg,hup,zaq,runA]
      · rw [hu] at hup
        rw [show acts k=[.w k (36+r) (atR g r data k)] from if_pos hu,zpb]
        have hwr:=zC7 hA hw' (k:Int) (36+r) .fresh (atR g r data k)
        by_cases he:(B'.write k (36+r) (atR g r data k)).1=0
        · simp (disch:=first | omega | assumption | (simp; done) | fail) [hk',hrl,zan hg,hup,zaq,hwr,he,Ben.act]
        · simp (disch:=first | omega | assumption | (simp; done) | fail) [hk',hrl,zan hg,hup,zaq,hwr,he,Ben.act]
    · rintro again B' ⟨hx,hL⟩
      dsimp only [st]
      simp
theorem zu3 (h:At T0 T1 b idx B) (hw:B.w≤999000) (tg:Tag) (live:List Bool):
    zbM [.h kB b 0,.sl tg (live.map D.bool)] [P0 T0 b idx B,P1 T1 idx B]=some (Ans.mk (.int .i64 (B.sFlush live).1) [] [P1 T1 idx (B.sFlush live).2]):=by
  rw [zn9,zof]
  unfold zht Ben.sFlush
  let acts:Nat→List Act:=fun d=>if B.up live d then [.f d] else []
  have hacts:B.fActs live=(List.range' 0 B.ds.length).flatMap acts:=by unfold Ben.fActs; rw [List.range_eq_range']
  have hsm:=h.ok.small
  rw [hacts,←zqD]
  let st:Nat→Ben→(Nat×List D×Int×Int×PUnit)×List (List D)×List (List D)×PUnit:=fun k B'=>((b,live.map D.bool,(B.ds.length:Int),(k:Int),PUnit.unit),P0 T0 b idx B,P1 T1 idx B',PUnit.unit)
  have hst:st 0 B=((b,live.map D.bool,(B.ds.length:Int),0,PUnit.unit),P0 T0 b idx B,P1 T1 idx B,PUnit.unit):=rfl
  have hl:=zzK h
  unfold Ben.n at hl
  simp (disch:=first | omega | assumption | (simp; done) | fail) only [hl,zag,zei,zbE]
  rw [←hst]
  refine zuv (fun k B'=>runA (acts k) B') (fun k B'=>Nx 0 B B'∧Like B B'∧P0 T0 b idx B'=P0 T0 b idx B) st (fun y=>some (Ans.mk (.int .i64 y.1) [] [P1 T1 idx y.2])) B.ds.length (by omega) ⟨.rfl' h.ok (by omega),.refl B,rfl⟩ ?_ ?_ ?_
  · rintro k B' hk' ⟨hx,hL,h0⟩ he
    dsimp only [acts] at he ⊢
    cases hu:B.up live (k:Int)
    · exact ⟨hx,hL,h0⟩
    · rw [if_pos rfl,zpb]
      refine ⟨(hx.trans (zAS hx.ok)).mono (by omega),hL.trans (zxZ hx.ok _),?_⟩
      show P0 T0 b idx (B'.flush k).2=_
      rw [←h0]
      unfold Ben.flush
      split<;>rfl
  · rintro again k B' hk' ⟨hx,hL,h0⟩
    dsimp only [st]
    have hA:=h.nx hx
    have hxw:=hx.w
    have hw':B'.w≤1000000:=by omega
    have hup:=zC6 hA .lent live (d:=(k:Int)) (by omega)
    rw [hL.up,h0] at hup
    by_cases hu:B.up live (k:Int)=true
    rotate_left
    · have hu':B.up live (k:Int)=false:=by simpa using hu
      rw [hu'] at hup
      rw [show acts k=[] from if_neg hu]
      simp (disch:=first | omega | assumption | (simp; done) | fail) [hk',hup,zaq,runA]
    · rw [hu] at hup
      rw [show acts k=[.f k] from if_pos hu,zpb]
      have hfl:=zC8 hA hw' (k:Int)
      rw [h0] at hfl
      by_cases he:(B'.flush k).1=0
      · simp (disch:=first | omega | assumption | (simp; done) | fail) [hk',hup,zaq,hfl,he,Ben.act]
      · simp (disch:=first | omega | assumption | (simp; done) | fail) [hk',hup,zaq,hfl,he,Ben.act]
  · rintro again B' ⟨hx,hL,h0⟩
    dsimp only [st]
    simp
end
end Wf

namespace Wf
open Go Go.RowKit Go.Proofs
set_option linter.unusedSimpArgs false
set_option linter.unusedVariables false
set_option maxHeartbeats 4000000
section
variable {T0 T1:Tb} {b:Nat} {idx:List Nat} {B:Ben}
theorem zDe {live:List Bool} {d a:Int} (hdn:B.down=false) (d0:0≤d) (hu:B.up live d=true) (a0:0≤a) (a1:a < 52):B.read d a=(B.cur d a,0):=by
  obtain ⟨h1,h2,_⟩:=zA0 d0 hu
  rw [zmL h1] at h2
  unfold Ben.read
  rw [if_neg (by rw [may0.2 ⟨h1,hdn⟩]; simp)]
  unfold DS.read
  rw [if_neg (by rw [zp4.2 ⟨h2,a0,a1⟩]; simp)]
  rfl
theorem zzW {live:List Bool} {d:Int} (a:Int) (hdn:B.down=true) (d0:0≤d) (hu:B.up live d=true):B.read d a=([],6):=by
  obtain ⟨h1,h2,_⟩:=zA0 d0 hu
  have hm:B.may d=6:=by unfold Ben.may; rw [h1,hdn]; rfl
  unfold Ben.read
  rw [hm]; simp
def Ben.secP (B:Ben) (live:List Bool) (r:Int) (n k:Nat):List Part:=(List.range n).map fun (d:Nat)=>if d < k then (if B.up live d then (Tag.fresh,B.cur d (36+r)) else (Tag.nil,[])) else (Tag.nil,[])
theorem zBu (live:List Bool) (r:Int) (n:Nat):(B.secP live r n n).map (·.2)=B.secs live r n:=by
  unfold Ben.secP Ben.secs
  rw [List.map_map]
  apply List.map_congr_left
  intro d hd
  have:=List.mem_range.1 hd
  simp only [Function.comp_apply,if_pos this]
  split<;>rfl
@[simp] theorem ztq (live:List Bool) (r:Int) (n k:Nat):(B.secP live r n k).length=n:=by simp [Ben.secP]
theorem zzX (live:List Bool) (r:Int) {n k:Nat} (hk:k < n) (hu:B.up live k=true):(B.secP live r n k).set k (Tag.fresh,B.cur k (36+r))=B.secP live r n (k+1):=by
  apply List.ext_getElem?
  intro j
  rw [List.getElem?_set]
  unfold Ben.secP
  by_cases hj:j < n
  · by_cases hjk:k=j
    · subst hjk; simp [hj,hu]
    · rw [if_neg hjk]
      simp only [List.getElem?_map,List.getElem?_range hj,Option.map_some]
      by_cases h1:j < k
      · simp only [if_pos h1,if_pos (show j < k+1 by omega)]
      · simp only [if_neg h1,if_neg (show ¬ j < k+1 by omega)]
  · have h1:k≠j:=by omega
    rw [if_neg h1,List.getElem?_eq_none (by simp; omega),List.getElem?_eq_none (by simp; omega)]
theorem zzY (live:List Bool) (r:Int) {n k:Nat} (hk:k < n) (hu:B.up live k=false):B.secP live r n k=B.secP live r n (k+1):=by
  unfold Ben.secP
  apply List.map_congr_left
  intro j hj
  by_cases h1:j < k
  · simp only [if_pos h1,if_pos (show j < k+1 by omega)]
  · by_cases hjk:j=k
    · subst hjk; simp [hu]
    · simp only [if_neg h1,if_neg (show ¬ j < k+1 by omega)]
theorem zzZ (live:List Bool) (r:Int) (n:Nat):pL (B.secP live r n 0)=List.replicate n (D.sl .nil []):=by
  unfold Ben.secP pL
  rw [List.map_map]
  apply List.ext_getElem?
  intro j
  by_cases hj:j < n
  · simp [hj,uL]
  · rw [List.getElem?_eq_none (by simp; omega),List.getElem?_eq_none (by simp; omega)]
theorem zDf (live:List Bool) (r:Int) {n k:Nat} (hk:k < n):(B.secP live r n k)[k]? =some (Tag.nil,[]):=by unfold Ben.secP; simp [hk]
theorem zqF (h:At T0 T1 b idx B) (hw:B.w≤1000000) (tg:Tag) (live:List Bool) (g:Geo) (r:Int):
    zaQ [.h kB b 0,.sl tg (live.map D.bool),.agg [.int .i64 g.l,.int .i64 g.d,.int .i64 g.c],.int .i64 r] [P0 T0 b idx B,P1 T1 idx B]=
      some (Ans.mk (.tup [.sl .own (pL (fP (B.sRead live g r).1)),.int .i64 (B.sRead live g r).2]) [] []):=by
  rw [zoV,zof]
  unfold ziE Ben.sRead
  have hck:zar [.agg [.int .i64 g.l,.int .i64 g.d,.int .i64 g.c]]=some (.int .i64 (if g.ok then 0 else 1)):=zh3 g.l g.d g.c
  cases hk:g.ok
  · have hf:zcw g r=false:=by unfold zcw; rw [hk]; rfl
    rw [hk] at hck
    simp [hck,hf]; rfl
  rw [hk] at hck
  by_cases r0:r < 0
  · have hf:zcw g r=false:=by unfold zcw; rw [hk]; simp; omega
    simp [hck,hf,r0]; rfl
  by_cases r1:r≥16
  · have hf:zcw g r=false:=by unfold zcw; rw [hk]; simp; omega
    simp [hck,hf,r0,show 16≤r by omega]; rfl
  have hr:zcw g r=true:=zbT.2 ⟨hk,by omega,by omega⟩
  have hdd:=ok_d hk
  rw [if_neg (by simp [hr])]
  have r1':¬ 16≤r:=by omega
  simp (disch:=first | omega | assumption | (simp; done) | fail) only [hck,if_true,zag,zbE,zy8,zAI,zab,List.length_replicate,Nat.zero_add,Nat.le_refl]
  let st:Nat→(Nat×List D×Int×(Int×Int×Int×PUnit)×List D×Int×Int×PUnit)×List (List D)×List (List D)×PUnit:=fun k=>
    ((b,live.map D.bool,r,(g.l,g.d,g.c,PUnit.unit),pL (B.secP live r g.d.toNat k),((g.d.toNat:Nat):Int),(k:Int),PUnit.unit),P0 T0 b idx B,P1 T1 idx B,PUnit.unit)
  have hst:st 0=((b,live.map D.bool,r,(g.l,g.d,g.c,PUnit.unit),List.replicate g.d.toNat (D.sl .nil []),((g.d.toNat:Nat):Int),0,PUnit.unit),P0 T0 b idx B,P1 T1 idx B,PUnit.unit):=by
    simp only [st,zzZ]; rfl
  rw [←hst]
  refine zkE (fun x=>g.d.toNat - x.1.2.2.2.2.2.2.1.toNat) (fun _=>_) (fun x=>∃ k:Nat,k≤g.d.toNat∧(B.down=true→∀ j:Nat,j < k→B.up live j=false)∧x=st k) ?_ ⟨0,by omega,fun _ j hj=>by omega,rfl⟩ (by simp [st]; omega)
  rintro again _ ⟨k,hk',hdn,rfl⟩ hag
  dsimp only [st]
  by_cases hlt:k < g.d.toNat
  · have hup:=zC6 h .lent live (d:=(k:Int)) (by omega)
    by_cases hu:B.up live (k:Int)=true
    · rw [hu] at hup
      cases hdo:B.down
      · have hrd:=zBX h hw (k:Int) (36+r)
        rw [zDe hdo (by omega) hu (by omega) (by omega)] at hrd
        have hg:=zDf (B:=B) live r hlt
        have:=hag (st (k+1)) ⟨k+1,by omega,fun e=>(by rw [hdo] at e; cases e),rfl⟩ (by simp [st]; omega)
        dsimp only [st] at this
        rw [←zzX live r hlt hu] at this
        simp (disch:=first | omega | assumption | (simp; done) | fail) [hlt,hup,hrd,zaq,ztq,zan (zct hg),ziJ,zoF]
        rw [show ((k+1:Nat):Int)=(k:Int)+1 by omega] at this
        simpa [hdo] using this
      · have hrd:=zBX h hw (k:Int) (36+r)
        rw [zzW (36+r) hdo (by omega) hu] at hrd
        have hany:(List.range g.d.toNat).any (fun (d:Nat)=>B.up live d)=true:=by
          rw [List.any_eq_true]; exact ⟨k,List.mem_range.2 hlt,hu⟩
        rw [hany]
        simp (disch:=first | omega | assumption | (simp; done) | fail) [hlt,hup,hrd,zaq]
        rfl
    · have hu':B.up live (k:Int)=false:=by simpa using hu
      rw [hu'] at hup
      have:=hag (st (k+1)) ⟨k+1,by omega,fun e j hj=>by
        by_cases ej:j=k
        · subst ej; exact hu'
        · exact hdn e j (by omega),rfl⟩ (by simp [st]; omega)
      dsimp only [st] at this
      rw [←zzY live r hlt hu'] at this
      rw [show ((k+1:Nat):Int)=(k:Int)+1 by omega] at this
      simp (disch:=first | omega | assumption | (simp; done) | fail) [hlt,hup,zaq]
      simpa using this
  · have hke:k=g.d.toNat:=by omega
    have hno:¬ (B.down=true∧(List.range g.d.toNat).any (fun (d:Nat)=>B.up live d)=true):=by
      rintro ⟨e1,e2⟩
      rw [List.any_eq_true] at e2
      obtain ⟨j,hj,hu⟩:=e2
      rw [hdn e1 j (by rw [hke]; exact List.mem_range.1 hj)] at hu; cases hu
    rw [if_neg hno]
    have htk:=zBs g r .lent (ps:=B.secP live r g.d.toNat g.d.toNat) (by rw [ztq]; omega)
    rw [zBu] at htk
    subst hke
    simp (disch:=first | omega | assumption | (simp; done) | fail) [-List.all_eq_true,ztm,ztq,htk]
    cases zxL g r (B.secs live r g.d.toNat) with
    | none=>simp [-List.all_eq_true,solD]; rfl
    | some o=>simp [-List.all_eq_true,solD,zfr]
end
end Wf

namespace Wf
open Go Go.RowKit Go.Proofs
set_option linter.unusedSimpArgs false
set_option linter.unusedVariables false
set_option maxHeartbeats 4000000
def zv8 (w left:Int) (down:Bool) (hs:List D):List D:=[.int .i64 w,.int .i64 left,.bool down,.sl .own hs]
theorem zv9 (m k:Nat):((List.range k).map fun j=>hD (m+j))++[hD (m+k)]=(List.range (k+1)).map fun j=>hD (m+j):=by simp [List.range_succ]
theorem zx0 (l:List Nat):zc2 (l.map hD)=true:=by simp only [zc2,List.all_map,List.all_eq_true]; intro i _; rfl
theorem zz0 (l:List Nat):zfz 1 (l.map hD)=true:=by simp only [zfz,List.all_map,List.all_eq_true]; intro i _; rfl
theorem zq5 {α:Type} (k:Nat) (a:α):List.replicate k a++[a]=List.replicate (k+1) a:=by
  rw [List.replicate_succ']
theorem zBv (T0 T1:Tb) {n:Int} (h0:1≤n) (h1:n≤8):
    zbp [.int .i64 n] [T0,T1]=some (Ans.mk (.tup [.h kB T0.length 0,.int .i64 0]) []
      [T0++[zv8 0 (-1) false ((List.range n.toNat).map fun j=>hD (T1.length+j))],T1++List.replicate n.toNat DS.new.cells]):=by
  rw [zqM]
  unfold zlQ
  have d1:decide (n < 1)=false:=by simp; omega
  have d2:decide (n > 8)=false:=by simp; omega
  rw [d1,zaw,d2,zaw,zpX]
  have hn:n=(n.toNat:Int):=by omega
  let st:Nat→(Nat×Int×Int×PUnit)×List (List D)×List (List D)×PUnit:=fun k=>
    ((T0.length,n,(k:Int),PUnit.unit),T0++[zv8 0 (-1) false ((List.range k).map fun j=>hD (T1.length+j))],T1++List.replicate k DS.new.cells,PUnit.unit)
  have h00:st 0=((T0.length,n,0,PUnit.unit),T0++[[D.own0 (D.int IntKind.i64 (0:Int)),D.own0 (D.int IntKind.i64 (-1:Int)),D.own0 (D.bool false),D.own0 (D.sl Tag.nil [])]],T1,PUnit.unit):=by
    simp [st,zv8,D.own0]
  rw [←h00]
  refine zb0 st n.toNat (by omega) ?_ ?_
  · intro again k hk
    dsimp only [st]
    have hd:decide ((k:Int) < n)=true:=by simp; omega
    have hrow:(T0++[zv8 0 (-1) false ((List.range k).map fun j=>hD (T1.length+j))])[T0.length]? =some (zv8 0 (-1) false ((List.range k).map fun j=>hD (T1.length+j))):=by simp
    have hnew:=zE6 (T1++List.replicate k DS.new.cells)
    have hl:(T1++List.replicate k DS.new.cells).length=T1.length+k:=by simp
    rw [hl,List.append_assoc,zq5] at hnew
    rw [hd,zaY,zan hrow]
    unfold zv8 at hrow ⊢
    rw [zhJ,zhJ,zhJ,zum,zbV,hnew,zag,zei,zrI,zei,zab (by rfl),zab (by rfl),zan hrow,zhJ,zhJ,zhJ,zum,zbV]
    rw [zab (by simp; omega),zab (by rfl),zab (by rfl),zpX,zvx hrow]
    have hset:=zkD hrow (List.set [D.int .i64 0,.int .i64 (-1),.bool false,.sl .own ((List.range k).map fun j=>hD (T1.length+j))] 3 .undef)
    have hsn:=zv9 T1.length k
    unfold hD at hsn
    have hH:(List.map (fun j=>hD (T1.length+j)) (List.range k))++[D.h kD (T1.length+k) 0]=(List.range (k+1)).map fun j=>hD (T1.length+j):=hsn
    dsimp only
    rw [zan hset,zab (by simp),hH,zab (by simp)]
    have e1:((List.range (k+1)).map fun j=>hD (T1.length+j))=((List.range (k+1)).map fun j=>T1.length+j).map hD:=by rw [List.map_map]; rfl
    rw [e1,zab (zx0 _),zab (zz0 _),zpX,zaN,zaq (by omega) (by omega),zdF hset,←e1,List.set_set]
    simp [zv8]
  · intro again
    dsimp only [st]
    have hd:decide (((n.toNat:Nat):Int) < n)=false:=by simp; omega
    rw [hd,zaw]
def nIdx (T1:Tb) (n:Nat):List Nat:=(List.range n).map fun j=>T1.length+j
def nT0 (T0 T1:Tb) (n:Nat):Tb:=T0++[bRow (Ben.new n) (nIdx T1 n)]
def nT1 (T1:Tb) (n:Nat):Tb:=T1++List.replicate n DS.new.cells
theorem zDg (T1:Tb) (n:Nat):((List.range n).map fun j=>hD (T1.length+j))=(nIdx T1 n).map hD:=by unfold nIdx; rw [List.map_map]; rfl
theorem zz1 (T0 T1:Tb) {n:Nat} (h8:n≤8):At (nT0 T0 T1 n) (nT1 T1 n) T0.length (nIdx T1 n) (Ben.new n):=by
  refine ⟨by simp [nT0],?_,fun i hi=>?_,by simp [nIdx,Ben.new],zrN h8⟩
  · unfold List.Nodup nIdx
    rw [List.pairwise_map]
    exact List.Pairwise.imp (fun h e=>h (by omega)) (List.nodup_range (n:=n))
  · unfold nIdx at hi
    obtain ⟨j,hj,rfl⟩:=List.mem_map.1 hi
    have:=List.mem_range.1 hj
    simp [nT1]; omega
theorem zEr (T0 T1:Tb) (n:Nat):P0 (nT0 T0 T1 n) T0.length (nIdx T1 n) (Ben.new n)=nT0 T0 T1 n:=zCY (by unfold nT0; simp)
theorem zEs (T1:Tb) (n:Nat):P1 (nT1 T1 n) (nIdx T1 n) (Ben.new n)=nT1 T1 n:=by
  unfold P1
  show putL _ _ _++[]=_
  rw [List.append_nil]
  refine zuw fun j i c h1 h2=>?_
  have hj:j < n:=by have:=zaR h1; simpa [nIdx] using this
  have e1:i=T1.length+j:=by
    unfold nIdx at h1
    rw [List.getElem?_map,List.getElem?_range hj] at h1
    simpa using h1.symm
  have e2:c=DS.new.cells:=by
    have:(Ben.new n).ds.map DS.cells=List.replicate n DS.new.cells:=by unfold Ben.new; simp
    rw [this] at h2
    rw [List.getElem?_replicate,if_pos hj] at h2
    exact (Option.some.inj h2).symm
  subst e1 e2
  unfold nT1
  rw [List.getElem?_append_right (by omega),show T1.length+j - T1.length=j by omega,List.getElem?_replicate,if_pos hj]
theorem zEt (T0 T1:Tb) {n:Nat} (h0:1≤n) (h8:n≤8):
    zbp [.int .i64 n] [T0,T1]=some (Ans.mk (.tup [.h kB T0.length 0,.int .i64 0]) [] [P0 (nT0 T0 T1 n) T0.length (nIdx T1 n) (Ben.new n),P1 (nT1 T1 n) (nIdx T1 n) (Ben.new n)]):=by
  rw [zBv T0 T1 (by omega) (by omega),zEr,zEs,Int.toNat_natCast,zDg]
  rfl
structure Still (B:Ben):Prop where
  ok:B.Ok
  down:B.down=false
  ds:∀ s∈B.ds,s.failed=false∧s.pend=[]
theorem Still.dk {B:Ben} (h:Still B) (d:Int):(B.dk d).failed=false∧(B.dk d).pend=[]:=by
  unfold Ben.dk
  cases e:B.ds[d.toNat]? with
  | none=>exact ⟨rfl,rfl⟩
  | some s=>exact h.ds s (List.mem_of_getElem? e)
theorem Still.failed {B:Ben} (h:Still B) (d:Int):B.failed d=false:=by unfold Ben.failed; rw [(h.dk d).1,Bool.and_false]
theorem zu4 {n:Nat} (h:n≤8):Still (Ben.new n):=⟨zrN h,rfl,fun s hs=>by
  unfold Ben.new at hs
  rw [(List.mem_replicate.1 hs).2]; exact ⟨rfl,rfl⟩⟩
theorem zEu (n:Nat) (d:Int):(Ben.new n).dk d=DS.new:=by
  unfold Ben.dk Ben.new
  dsimp only
  rw [List.getElem?_replicate]
  split<;>rfl
theorem zBw {a:Nat} (ha:a < 52):DS.new.base a=zdU:=by
  unfold DS.base
  show ((List.replicate 1664 (0:Int)).drop (a*32)).take 32=_
  rw [List.drop_replicate,List.take_replicate]
  unfold zdU
  congr 1
  omega
theorem zz2 (n:Nat) (d:Int) {a:Int} (a0:0≤a) (a1:a < 52):(Ben.new n).cur d a=zdU:=by
  unfold Ben.cur
  rw [zEu]
  show look [] a (DS.new.base a.toNat)=_
  rw [zo7,zBw (by omega)]
section
variable {B:Ben} {d a:Int} {x:List Int}
theorem zu5 (h:Still B) (hx:Sec x):Still (B.damage d a x).2∧(B.damage d a x).2.n=B.n∧(B.damage d a x).2.w=B.w∧(B.damage d a x).2.left=B.left:=by
  refine ⟨⟨(zuu h.ok (.inl hx)).ok,?_,?_⟩,(zuu (d:=d) (a:=a) h.ok (.inl hx)).n,?_,?_⟩
  · unfold Ben.damage; split<;>exact h.down
  · unfold Ben.damage
    split
    · intro s hs
      rcases List.mem_or_eq_of_mem_set hs with hs | hs
      · exact h.ds s hs
      · subst hs
        unfold DS.damage
        dsimp only
        split
        · exact h.dk d
        · exact h.dk d
    · exact h.ds
  · unfold Ben.damage; split<;>rfl
  · unfold Ben.damage; split<;>rfl
theorem zx1 (h:Still B) (hd:B.is d=true) (a0:0≤a) (a1:a < 52) (hx:Sec x) {e b:Int} (e0:0≤e) (b0:0≤b) (b1:b < 52):
    (B.damage d a x).1=0∧(B.damage d a x).2.cur e b=if e=d∧b=a then x else B.cur e b:=by
  have hk:=h.dk d
  have hw:(B.dk d).mayW a x=0:=zzp (zp4.2 ⟨hk.1,a0,a1⟩) hx.len
  have e1:(B.dk d).damage a x=(0,(B.dk d).setSec a.toNat x):=by unfold DS.damage; rw [hw,if_pos rfl]
  unfold Ben.damage
  rw [if_pos hd,e1]
  refine ⟨rfl,?_⟩
  unfold Ben.cur
  rw [zjH hd e0]
  by_cases he:e=d
  · subst he
    rw [if_pos rfl]
    have hp:((B.dk e).setSec a.toNat x).pend=[]:=hk.2
    unfold DS.sec
    rw [hp,hk.2,zo7,zo7,zp3 (znE h.ok e).1.len (by omega) hx.len b.toNat (by omega)]
    by_cases hb:b=a
    · rw [if_pos (by omega),if_pos ⟨rfl,hb⟩]
    · rw [if_neg (by omega),if_neg (fun q=>hb q.2)]
  · rw [if_neg he,if_neg (fun q=>he q.1)]
end
def Ben.dmgs (B:Ben) (a:Int) (xs:List (List Int)):Nat→Ben
  | 0=>B
  | k+1=>((B.dmgs a xs k).damage (k:Int) a (xs.getD k [])).2
def rowL (g:Geo) (l:List Int) (r:Nat):List (List Int):=secL (l.drop (min r l.length)) g.width.toNat
theorem znk {g:Geo} (hk:g.ok=true) (l:List Int) (r:Nat):Row g (rowL g l r):=⟨by have:=zdW hk; simp [rowL]; omega,zto _ _⟩
def zkp (gs:Nat→Geo) (l:List Int) (n:Nat):Nat→Ben
  | 0=>.new n
  | r+1=>(zkp gs l n r).dmgs (36+(r:Int)) (zcL (gs r) r (rowL (gs r) l r)) (min (gs r).d.toNat n)
structure Filld (gs:Nat→Geo) (l:List Int) (n:Nat) (R:Nat) (B:Ben):Prop where
  still:Still B
  num:B.n=n
  w:B.w=0
  left:B.left= -1
  cur:∀ d a:Int,0≤d→0≤a→a < 52→B.cur d a=if 36≤a∧a < 36+R∧d < (gs (a - 36).toNat).d∧d < n then atR (gs (a - 36).toNat) (a - 36) (rowL (gs (a - 36).toNat) l (a - 36).toNat) d else zdU
theorem zqG {g:Geo} {r:Int} {data:List (List Int)} {d:Nat} (h:(d:Int) < g.d):(zcL g r data).getD d []=atR g r data d:=by
  rw [List.getD_eq_getElem?_getD,zkK h]; rfl
theorem zog {gs:Nat→Geo} {l:List Int} {n R:Nat} {B:Ben} (h:Filld gs l n R B) (hR:R < 16) (hk:(gs R).ok=true):∀ k,k≤min (gs R).d.toNat n→
    Still (B.dmgs (36+(R:Int)) (zcL (gs R) R (rowL (gs R) l R)) k)∧(B.dmgs (36+(R:Int)) (zcL (gs R) R (rowL (gs R) l R)) k).n=n∧(B.dmgs (36+(R:Int)) (zcL (gs R) R (rowL (gs R) l R)) k).w=0∧(B.dmgs (36+(R:Int)) (zcL (gs R) R (rowL (gs R) l R)) k).left= -1∧
    ∀ d a:Int,0≤d→0≤a→a < 52→(B.dmgs (36+(R:Int)) (zcL (gs R) R (rowL (gs R) l R)) k).cur d a=if a=36+R∧d < k then atR (gs R) R (rowL (gs R) l R) d else B.cur d a
  | 0,_=>⟨h.still,h.num,h.w,h.left,fun d a d0 a0 a1=>by rw [if_neg (by omega)]; rfl⟩
  | k+1,hk'=>by
    obtain ⟨i1,i2,i3,i4,i5⟩:=zog h hR hk k (by omega)
    have hr:zcw (gs R) (R:Int)=true:=zbT.2 ⟨hk,by omega,by omega⟩
    have hsec:=zzx hr (znk hk l R) (d:=(k:Int)) (by omega) (by omega)
    have hg:=zqG (g:=gs R) (r:=R) (data:=rowL (gs R) l R) (d:=k) (by omega)
    generalize hB:B.dmgs (36+(R:Int)) (zcL (gs R) R (rowL (gs R) l R)) k=C at*
    have hC:B.dmgs (36+(R:Int)) (zcL (gs R) R (rowL (gs R) l R)) (k+1)=(C.damage (k:Int) (36+(R:Int)) (atR (gs R) R (rowL (gs R) l R) k)).2:=by
      show ((B.dmgs (36+(R:Int)) (zcL (gs R) R (rowL (gs R) l R)) k).damage (k:Int) (36+(R:Int)) ((zcL (gs R) R (rowL (gs R) l R)).getD k [])).2=_
      rw [hB,hg]
    rw [hC]
    have hd:C.is (k:Int)=true:=zfQ.2 ⟨by omega,by rw [i2]; omega⟩
    obtain ⟨j1,j2,j3,j4⟩:=zu5 (d:=(k:Int)) (a:=36+(R:Int)) i1 hsec
    refine ⟨j1,j2.trans i2,j3.trans i3,j4.trans i4,fun d a d0 a0 a1=>?_⟩
    rw [(zx1 i1 hd (by omega) (by omega) hsec d0 a0 a1).2,i5 d a d0 a0 a1]
    by_cases ha:a=36+(R:Int)
    · by_cases hdk:d=k
      · subst hdk; rw [if_pos ⟨rfl,ha⟩,if_pos ⟨ha,by omega⟩]
      · rw [if_neg (fun q=>hdk q.1)]
        by_cases hlt:d < k
        · rw [if_pos ⟨ha,hlt⟩,if_pos ⟨ha,by omega⟩]
        · rw [if_neg (fun q=>hlt q.2),if_neg (fun q=>by omega)]
    · rw [if_neg (fun q=>ha q.2),if_neg (fun q=>ha q.1),if_neg (fun q=>ha q.1)]
theorem zkq {gs:Nat→Geo} {l:List Int} {n:Nat} (n8:n≤8) (hk:∀ r,(gs r).ok=true):∀ R,R≤16→Filld gs l n R (zkp gs l n R)
  | 0,_=>⟨zu4 n8,by simp [zkp,Ben.new,Ben.n],rfl,rfl,fun d a d0 a0 a1=>by rw [if_neg (by omega)]; exact zz2 n d a0 a1⟩
  | R+1,hR=>by
    have ih:=zkq (l:=l) n8 hk R (by omega)
    obtain ⟨i1,i2,i3,i4,i5⟩:=zog ih (by omega) (hk R) (min (gs R).d.toNat n) (Nat.le_refl _)
    refine ⟨i1,i2,i3,i4,fun d a d0 a0 a1=>?_⟩
    show ((zkp gs l n R).dmgs (36+(R:Int)) (zcL (gs R) R (rowL (gs R) l R)) (min (gs R).d.toNat n)).cur d a=_
    rw [i5 d a d0 a0 a1,ih.cur d a d0 a0 a1]
    have hdd:=ok_d (hk R)
    by_cases ha:a=36+(R:Int)
    · have e:(a - 36).toNat=R:=by omega
      have e2:a - 36=(R:Int):=by omega
      rw [e,e2]
      by_cases hlt:d < (gs R).d∧d < n
      · rw [if_pos ⟨ha,by omega⟩,if_pos ⟨by omega,by omega,hlt.1,hlt.2⟩]
      · rw [if_neg (fun q=>hlt ⟨by omega,by omega⟩),if_neg (fun q=>by omega),if_neg (fun q=>hlt ⟨q.2.2.1,q.2.2.2⟩)]
    · rw [if_neg (fun q=>ha q.1)]
      by_cases hc:36≤a∧a < 36+(R:Int)∧d < (gs (a - 36).toNat).d∧d < n
      · rw [if_pos hc,if_pos ⟨hc.1,by omega,hc.2.2.1,hc.2.2.2⟩]
      · rw [if_neg hc,if_neg (fun q=>hc ⟨q.1,by omega,q.2.2.1,q.2.2.2⟩)]
end Wf

namespace Wf
open Go Go.RowKit Go.Proofs
set_option linter.unusedSimpArgs false
set_option linter.unusedVariables false
set_option maxHeartbeats 4000000
theorem zz3 (l:List Int) (n:Nat):(intL l).drop n=intL (l.drop n):=by simp [intL,List.map_drop]
theorem zr6 (l:List Int):zvh 1 (intL l)=true:=by simp [zvh,intL,D.cell,D.width]
theorem zu6 (l:List Int) (r:Int) (r0:0≤r):cutI (min r (l.length:Int)) (l.length:Int) (intL l)=intL (l.drop (min r.toNat l.length)):=by
  unfold cutI
  have:(min r (l.length:Int)).toNat=min r.toNat l.length:=by omega
  rw [this,zz3,List.take_of_length_le (by rw [zft]; simp; omega)]
theorem zz4 (g:Geo) (hk:g.ok=true) (r:Int) (r0:0≤r) (tg:Tag) (l:List Int):
    za3 [.agg [.int .i64 g.l,.int .i64 g.d,.int .i64 g.c],.int .i64 r,.sl tg (intL l)]=some (.sl .own (pL (fP (rowL g l r.toNat)))):=by
  rw [zkf,zjC]
  unfold zeW
  have hw:=zdW hk
  have hsp:=fun tg=>zko tg (l.drop (min r.toNat l.length)) (n:=g.width.toNat) (by omega)
  rw [show ((g.width.toNat:Nat):Int)=g.width by omega] at hsp
  have hm1:0≤min r (l.length:Int):=by omega
  have hm2:min r (l.length:Int)≤(l.length:Int):=by omega
  have hfree:=zfr (rowL g l r.toNat)
  unfold rowL at hfree ⊢
  simp (disch:=first | omega | assumption | (simp; done) | fail) [-List.all_eq_true,zft,hm1,hm2,zr6,zgi,zu6 l r r0,hsp,hfree]
section
variable {T0 T1:Tb}
theorem zEv {g:Geo} (hk:g.ok=true) {n:Nat} (n0:1≤n) (n8:n≤8) (tg:Tag) (l:List Int):
    zaX [.agg [.int .i64 g.l,.int .i64 g.d,.int .i64 g.c],.int .i64 n,.sl tg (intL l)] [T0,T1]=
      some (Ans.mk (.h kB T0.length 0) [] [P0 (nT0 T0 T1 n) T0.length (nIdx T1 n) (zkp (fun _=>g) l n 16),P1 (nT1 T1 n) (nIdx T1 n) (zkp (fun _=>g) l n 16)]):=by
  rw [zix,zjC]
  unfold zd6
  have hat0:=zz1 T0 T1 n8
  have hnew:=zEt T0 T1 n0 n8
  generalize nT0 T0 T1 n=U0 at*
  generalize nT1 T1 n=U1 at*
  generalize nIdx T1 n=idx at*
  have hw:=zdW hk
  have hdd:=ok_d hk
  have hF:=fun R hR=>zkq (gs:=fun _=>g) (l:=l) n8 (fun _=>hk) R hR
  have hat:∀ B:Ben,B.Ok→B.n=n→At U0 U1 T0.length idx B:=fun B hB hn=>⟨hat0.b,hat0.nd,hat0.lt,by rw [hat0.len]; unfold Ben.n at hn; simp [Ben.new]; omega,hB⟩
  simp (disch:=first | omega | assumption | (simp; done) | fail) only [hnew,zag,zei,zrI,zmD,zqC,zbE,zy8,zCH,zaw,show ziN (D.h kB T0.length 0)=true from rfl,zab]
  let st:Nat→(Int×List D×(Int×Int×Int×PUnit)×D×Int×PUnit)×List (List D)×List (List D)×PUnit:=fun r=>(((n:Int),intL l,(g.l,g.d,g.c,PUnit.unit),.h kB T0.length 0,(r:Int),PUnit.unit),P0 U0 T0.length idx (zkp (fun _=>g) l n r),P1 U1 idx (zkp (fun _=>g) l n r),PUnit.unit)
  show zcc _ (st 0)=_
  refine zcF st 16 (by omega) ?_ ?_
  · intro again r hr
    dsimp only [st]
    have hfine:zcw g (r:Int)=true:=zbT.2 ⟨hk,by omega,by omega⟩
    have hm1:0≤min (r:Int) (l.length:Int):=by omega
    have hm2:min (r:Int) (l.length:Int)≤(l.length:Int):=by omega
    have hsp:=fun tg=>zko tg (l.drop (min r l.length)) (n:=g.width.toNat) (by omega)
    rw [show ((g.width.toNat:Nat):Int)=g.width by omega] at hsp
    have hc:=zu6 l (r:Int) (by omega)
    rw [Int.toNat_natCast] at hc
    have hfill:=zBt g (r:Int) .lent (ps:=fP (rowL g l r)) (by simp [rowL]; omega) (by intro x hx; obtain ⟨y,hy,rfl⟩:=List.mem_map.1 hx; exact zto _ _ y hy)
    rw [zuX,zuC hfine (znk hk l r)] at hfill
    have hrl:=znI g (r:Int) (rowL g l r)
    have hr16:(r:Int) < 16:=by omega
    unfold rowL at hfill
    simp (disch:=first | omega | assumption | (simp; done) | fail) only [zD0,zaN,zft,zab,zr6,zgi,zag,zbE,hc,hsp,zbV,zc3,Nat.zero_add,Nat.le_refl,hfill,solD,zmD,zqC,zcU]
    have hxs:secL (l.drop (min r l.length)) g.width.toNat=rowL g l r:=rfl
    rw [hxs]
    have hFr:=hF r (by omega)
    have hdm:=fun k hk'=>zog (gs:=fun _=>g) hFr hr hk k hk'
    have hnx:zkp (fun _=>g) l n (r+1)=(zkp (fun _=>g) l n r).dmgs (36+(r:Int)) (zcL g r (rowL g l r)) (min g.d.toNat n):=rfl
    rw [hnx]
    generalize zkp (fun _=>g) l n r=B at*
    have h0:∀ k,k≤min g.d.toNat n→P0 U0 T0.length idx (B.dmgs (36+(r:Int)) (zcL g r (rowL g l r)) k)=P0 U0 T0.length idx B:=by
      intro k hk'
      induction k with
      | zero=>rfl
      | succ k ih=>
        rw [←ih (by omega)]
        show P0 U0 T0.length idx ((B.dmgs (36+(r:Int)) (zcL g r (rowL g l r)) k).damage _ _ _).2=_
        unfold Ben.damage
        split<;>rfl
    let s2:Nat→(Int×List D×(Int×Int×Int×PUnit)×D×Int×List D×Bool×Int×PUnit)×List (List D)×List (List D)×PUnit:=fun k=>
      (((n:Int),intL l,(g.l,g.d,g.c,PUnit.unit),.h kB T0.length 0,(r:Int),pL (fP (zcL g r (rowL g l r))),true,(k:Int),PUnit.unit),P0 U0 T0.length idx B,P1 U1 idx (B.dmgs (36+(r:Int)) (zcL g r (rowL g l r)) k),PUnit.unit)
    show zcc _ (s2 0)=_
    refine zcF s2 (min g.d.toNat n) (by omega) ?_ ?_
    · intro again2 k hk'
      dsimp only [s2]
      obtain ⟨i1,i2,i3,i4,i5⟩:=hdm k (by omega)
      have hA:=hat _ i1.ok i2
      have hg:(pL (fP (zcL g r (rowL g l r))))[k]? =some (.sl .fresh (uL (atR g r (rowL g l r) k))):=zct (zw2 (zkK (by omega)))
      have hb:=zBi hA (by omega) (k:Int) (a:=36+(r:Int)) (by intro w hw; rw [(i1.dk _).2] at hw; cases hw) .fresh (atR g r (rowL g l r) k)
      rw [h0 k (by omega)] at hb
      have hgd:(zcL g r (rowL g l r)).getD k []=atR g r (rowL g l r) k:=zqG (by omega)
      have h1:(k:Int) < ((g.d.toNat:Nat):Int):=by omega
      have h2:(k:Int) < (n:Int):=by omega
      have h3:k < g.d.toNat:=by omega
      simp (disch:=first | omega | assumption | (simp; done) | fail) [hrl,h1,h2,h3,zan hg,hb,zaq]
      rw [←hgd]; rfl
    · intro again2
      dsimp only [s2]
      rw [h0 _ (Nat.le_refl _)]
      by_cases h1:min g.d.toNat n < g.d.toNat
      · have h2:¬ ((min g.d.toNat n:Nat):Int) < (n:Int):=by omega
        have h1':((min g.d.toNat n:Nat):Int) < ((g.d.toNat:Nat):Int):=by omega
        simp (disch:=first | omega | assumption | (simp; done) | fail) only [zaY,hrl,zr1,zzS,zab,Nat.zero_add,Nat.le_refl,zD0,zAI,zup]
        rw [zaq (by omega) (by omega)]; rfl
      · have h1':¬ ((min g.d.toNat n:Nat):Int) < ((g.d.toNat:Nat):Int):=by omega
        simp (disch:=first | omega | assumption | (simp; done) | fail) only [zaY,hrl,zr1,zzS,zab,Nat.zero_add,Nat.le_refl,zAI,zup]
        rw [zaq (by omega) (by omega)]; rfl
  · intro again
    dsimp only [st]
    simp (disch:=first | omega | assumption | (simp; done) | fail) only [zAI,show (D.h kB T0.length 0).free=true from rfl,zab]
end
end Wf

namespace Wf
open Go Go.RowKit Go.Proofs
set_option linter.unusedSimpArgs false
set_option linter.unusedVariables false
set_option maxHeartbeats 4000000
theorem zu7 {p:Nat→Bool} {a b:Nat}:∀ n,(∀ i,i < n→p i=true→i=a∨i=b)→(List.range n).countP p≤(if a < n then 1 else 0)+(if b < n then 1 else 0)
  | 0,_=>by simp
  | n+1,h=>by
    have ih:=zu7 n fun i hi hp=>h i (by omega) hp
    rw [List.range_succ,List.countP_append,List.countP_singleton]
    by_cases hp:p n=true
    · rw [if_pos hp]
      rcases h n (by omega) hp with e | e
      · subst e; rw [if_neg (by omega)] at ih; rw [if_pos (by omega)]; split at ih<;>split<;>omega
      · subst e; rw [if_neg (show ¬ n < n by omega)] at ih; rw [if_pos (show n < n+1 by omega)]; split at ih<;>split<;>omega
    · rw [if_neg hp]
      split at ih<;>split at ih<;>split<;>split<;>omega
theorem zz5 {p:Nat→Bool} {a n:Nat} (h:∀ i,i < n→p i=true→i=a):(List.range n).countP p≤1:=by
  have:∀ n,(∀ i,i < n→p i=true→i=a)→(List.range n).countP p≤if a < n then 1 else 0:=by
    intro n
    induction n with
    | zero=>simp
    | succ n ih=>
      intro h
      have ih:=ih fun i hi hp=>h i (by omega) hp
      rw [List.range_succ,List.countP_append,List.countP_singleton]
      by_cases hp:p n=true
      · rw [if_pos hp]
        have e:=h n (by omega) hp
        subst e; rw [if_neg (by omega)] at ih; rw [if_pos (by omega)]; omega
      · rw [if_neg hp]
        split at ih<;>split<;>omega
  have:=this n h
  split at this<;>omega
section
variable {B:Ben} {d a:Int}
theorem zBx (hd:B.is d=true) {e b:Int} (e0:0≤e) (hne:e≠d):(B.fail d).2.cur e b=B.cur e b:=by
  unfold Ben.fail
  rw [if_pos hd]
  unfold Ben.cur
  rw [zjH hd e0,if_neg hne]
theorem zwa (hd:B.is d=true) {e:Int} (he:B.is e=true):(B.fail d).2.failed e=(decide (e=d) || B.failed e):=by
  unfold Ben.fail
  rw [if_pos hd]
  unfold Ben.failed
  rw [zvM,he,zjH hd (zfQ.1 he).1]
  by_cases h:e=d
  · subst h; rw [if_pos rfl,show DS.dead.failed=true from rfl]; simp
  · rw [if_neg h]; simp [h]
theorem zz6 (hd:B.is d=true):(B.fail d).1=0∧(B.fail d).2.n=B.n∧(B.fail d).2.down=B.down∧(B.fail d).2.left=B.left∧(B.fail d).2.w=B.w:=by
  unfold Ben.fail
  rw [if_pos hd]
  exact ⟨rfl,by simp,rfl,rfl,rfl⟩
end
theorem zBy {n:Nat} {d:Int} (d0:0≤d):((List.replicate n true)[d.toNat]?).getD false=decide (d < n):=by
  rw [List.getElem?_replicate]
  by_cases h:d < n
  · rw [if_pos (by omega)]; simp [h]
  · rw [if_neg (by omega)]; simp [h]
theorem zBZ {B:Ben} {n:Nat} (hn:B.n=n) {d:Int} (d0:0≤d):B.up (List.replicate n true) d=(decide (d < n) && !B.failed d):=by
  unfold Ben.up
  rw [zBy d0,hn]
  cases decide (d < (n:Int))<;>simp
theorem zxa (B:Ben) (live:List Bool) (g:Geo) (r:Int) (data:List (List Int)):nW (B.wActs live g r data)≤g.d.toNat:=by
  unfold Ben.wActs
  have:∀ n,nW ((List.range n).flatMap fun (d:Nat)=>if B.up live d then [Act.w d (36+r) (atR g r data d)] else [])≤n:=by
    intro n
    induction n with
    | zero=>simp [nW]
    | succ n ih=>
      rw [List.range_succ,List.flatMap_append,zzu]
      have:nW (List.flatMap (fun (d:Nat)=>if B.up live d then [Act.w d (36+r) (atR g r data d)] else []) [n])≤1:=by
        simp only [List.flatMap_cons,List.flatMap_nil,List.append_nil]
        split
        · exact Nat.le_trans (List.length_filter_le _ _) (by simp)
        · simp [nW]
      omega
  exact this _
theorem ztr (B:Ben) (live:List Bool):nW (B.fActs live)=0:=by
  unfold Ben.fActs nW
  rw [List.length_eq_zero_iff,List.filter_eq_nil_iff]
  intro a ha
  obtain ⟨d,_,ha⟩:=List.mem_flatMap.1 ha
  split at ha
  · rw [List.mem_singleton.1 ha]; simp [Act.isW]
  · cases ha
theorem zwb {B:Ben} (hB:B.Ok) (hd:B.down=false) {live:List Bool} {g:Geo} {r:Int} {data:List (List Int)} (hr:zcw g r=true) (hR:Row g data) (hl:B.left < 0∨8≤B.left):
    B.sWrite live g r data=(0,does B (B.wActs live g r data))∧Does B (B.wActs live g r data):=by
  have hdd:=ok_d (zbT.1 hr).1
  have hn:=zxa B live g r data
  have:=zsV (B.wActs live g r data) hB hd (zA1 hr hR) (by omega)
  refine ⟨?_,this⟩
  unfold Ben.sWrite
  rw [zuC hr hR,if_neg (by simp),this.run]
theorem zwc {B:Ben} (hB:B.Ok) (hd:B.down=false) (live:List Bool) (hl:B.left < 0∨0≤B.left):B.sFlush live=(0,does B (B.fActs live))∧Does B (B.fActs live):=by
  have:=zsV (B.fActs live) hB hd zA2 (by rw [ztr]; omega)
  exact ⟨this.run,this⟩
theorem zz7 {B:Ben} {live:List Bool} (h:Does B (B.fActs live)) {e b:Int} (e0:0≤e) (b0:0≤b) (b1:b < 52):(does B (B.fActs live)).cur e b=B.cur e b:=by
  rw [h.cur e b e0 b0 b1]
  exact znG (zA3 e b) _
theorem zz8 {B:Ben} {live:List Bool} {g:Geo} {r:Int} {data:List (List Int)} (h:Does B (B.wActs live g r data)) {e b:Int} (e0:0≤e) (e1:e < g.d) (b0:0≤b) (b1:b < 52):
    (does B (B.wActs live g r data)).cur e b=if b=36+r∧B.up live e=true then atR g r data e else B.cur e b:=by
  rw [h.cur e b e0 b0 b1]
  by_cases hc:b=36+r∧B.up live e=true
  · rw [if_pos hc,hc.1]
    have:=zzB (B:=B) (live:=live) (g:=g) (r:=r) (data:=data) (d:=e.toNat) (by omega) (by rw [show ((e.toNat:Nat):Int)=e by omega]; exact hc.2) B.cur
    rw [show ((e.toNat:Nat):Int)=e by omega] at this
    exact this
  · rw [if_neg hc]
    refine znG (zvO ?_) _
    by_cases hb:b=36+r
    · refine .inr ?_
      cases hu:B.up live e
      · rfl
      · exact absurd ⟨hb,hu⟩ hc
    · exact .inl hb
theorem zxb (f:Nat→Int) {n:Nat}:sumK f 32 (List.replicate n zdU) n=zdU:=by
  have hs:∀ l∈List.replicate n zdU,l.length=32:=by intro l hl; rw [(List.mem_replicate.1 hl).2]; exact zmJ.len
  have hl:(sumK f 32 (List.replicate n zdU) n).length=32:=zkG hs (by simp)
  refine zzf (by rw [hl,zmJ.len]) fun i hi=>?_
  rw [hl] at hi
  rw [zrK hs hi (by simp),zjE]
  have:∀ k,k≤n→xsum (fun j=>mul8 (getB ((List.replicate n zdU).getD j []) i) (f j)) k=0:=by
    intro k
    induction k with
    | zero=>intro _; rfl
    | succ k ih=>
      intro hk
      have e:(List.replicate n zdU).getD k []=zdU:=by rw [List.getD_eq_getElem?_getD,List.getElem?_replicate,if_pos (by omega)]; rfl
      show xor8 (xsum _ k) (mul8 (getB ((List.replicate n zdU).getD k []) i) (f k))=0
      rw [ih (by omega),e,zjE,zmI]; rfl
  exact this n (Nat.le_refl _)
def ziK (g:Geo):List (List Int):=List.replicate g.width.toNat zdU
theorem zBz {g:Geo} (hk:g.ok=true):Row g (ziK g):=⟨by have:=zdW hk; simp [ziK]; omega,fun x hx=>by rw [(List.mem_replicate.1 hx).2]; exact zmJ⟩
theorem zDh {g:Geo} {r d:Int} (hr:zcw g r=true) (d0:0≤d) (d1:d < g.d):atR g r (ziK g) d=zdU:=by
  unfold atR
  split
  · unfold sumP ziK; rw [List.length_replicate]; exact zxb _
  · rename_i h1
    split
    · unfold sumQ ziK; rw [List.length_replicate]; exact zxb _
    · rename_i h2
      obtain ⟨c0,c1,_⟩:=zkJ hr d0 d1 h1 h2
      unfold ziK
      rw [List.getD_eq_getElem?_getD,List.getElem?_replicate,if_pos (by omega)]; rfl
theorem zBA {g:Geo} {r:Int} {n:Nat} (hr:zcw g r=true) (hn:n=g.d.toNat):(Ben.new n).sRead (List.replicate n true) g r=(ziK g,0):=by
  obtain ⟨hk,r0,r1⟩:=zbT.1 hr
  have hdd:=ok_d hk
  have hl:=zg7.1 hk
  have h8:n≤8:=by omega
  have hup:∀ d:Int,0≤d→d < g.d→(Ben.new n).up (List.replicate n true) d=true:=by
    intro d d0 d1
    rw [zBZ (by simp [Ben.new,Ben.n]) d0,(zu4 h8).failed]
    simp; omega
  rw [zw0 hr (zBz hk) rfl fun d d0 d1 _=>by rw [zz2 n d (by omega) (by omega),zDh hr d0 d1]]
  have:(Ben.new n).lostN (List.replicate n true) g=0:=by
    unfold Ben.lostN
    rw [List.countP_eq_zero]
    intro d hd
    have:=List.mem_range.1 hd
    rw [hup d (by omega) (by omega)]; simp
  rw [this,if_pos (by omega)]
theorem zDi:(List.replicate 32 (D.int IntKind.u8 0))=uL zdU:=zoy 32 0
theorem zz9:za6 []=some (.bool true):=by
  have e:=zjh
  rw [e,zab (by rfl)]
  unfold zeu
  have hnew:=zEt [] [] (n:=3) (by omega) (by omega)
  have hat:=zz1 [] [] (n:=3) (by omega)
  generalize nT0 [] [] 3=U at*
  generalize nT1 [] 3=V at*
  generalize nIdx [] 3=idx at*
  let g:Geo:=⟨5,3,1⟩
  have hr:zcw g 4=true:=by decide
  have hrd:=zqF hat (by simp [Ben.new]) .full [true,true,true] g 4
  have hx:(Ben.new 3).sRead [true,true,true] g 4=(ziK g,0):=zBA (n:=3) hr (by decide)
  rw [hx] at hrd
  have hz:ziK g=[zdU,zdU]:=rfl
  rw [hz] at hrd
  have hrd':zaQ [.h kB 0 0,.sl .full [.bool true,.bool true,.bool true],.agg [.int .i64 5,.int .i64 3,.int .i64 1],.int .i64 4] [P0 U 0 idx (Ben.new 3),P1 V idx (Ben.new 3)]=some (Ans.mk (.tup [.sl .own (pL (fP [zdU,zdU])),.int .i64 0]) [] []):=hrd
  have hp:pL (fP [zdU,zdU])=[.sl .fresh (uL zdU),.sl .fresh (uL zdU)]:=rfl
  rw [hp] at hrd'
  have hs:=zuS .fresh .lent zdU zdU (by decide)
  have hnew':zbp [.int .i64 3] [[],[]]=some (Ans.mk (.tup [.h kB 0 0,.int .i64 0]) [] [P0 U 0 idx (Ben.new 3),P1 V idx (Ben.new 3)]):=hnew
  have hz32:uL zdU=List.replicate 32 (D.int IntKind.u8 0):=zDi.symm
  rw [hz32] at hs hrd'
  simp only [List.replicate] at hs hrd'
  simp [hnew',hrd',ziN,hs]
end Wf

namespace Wf
open Go Go.RowKit Go.Proofs
set_option linter.unusedSimpArgs false
set_option linter.unusedVariables false
set_option maxHeartbeats 4000000
theorem zx2 (l:List Bool):(l.map D.bool).all D.free=true:=by rw [List.all_map,List.all_eq_true]; intro b _; rfl
theorem zx3 {d k:Nat} (hk:k < d):((List.range d).map fun i=>D.bool (decide (i < k))).set k (.bool true)=(List.range d).map fun i=>D.bool (decide (i < k+1)):=by
  apply List.ext_getElem?
  intro j
  rw [List.getElem?_set]
  by_cases hj:j < d
  · by_cases hjk:k=j
    · subst hjk; simp [hj]
    · rw [if_neg hjk]
      simp only [List.getElem?_map,List.getElem?_range hj,Option.map_some,Option.some.injEq,D.bool.injEq,decide_eq_decide]
      omega
  · have h1:k≠j:=by omega
    rw [if_neg h1,List.getElem?_eq_none (by simp; omega),List.getElem?_eq_none (by simp; omega)]
theorem zBB {d:Nat} (h0:1≤d) (h8:d≤8):zbv [.int .i64 0,.int .i64 d]=some (.sl .own ((List.replicate d true).map D.bool)):=by
  rw [zk7]
  unfold zfj
  rw [zab (by omega),zab (by rfl),zab (by omega),zab (by omega),zab (by simp),zab (by simp),Int.toNat_natCast]
  let st:Nat→(Int×Int×List D×Int×Int×PUnit)×PUnit:=fun k=>((0,(d:Int),(List.range d).map (fun i=>D.bool (decide (i < k))),(d:Int),(k:Int),PUnit.unit),PUnit.unit)
  have hst:st 0=((0,(d:Int),List.replicate d (D.bool false),(d:Int),0,PUnit.unit),PUnit.unit):=by
    have:(List.range d).map (fun i=>D.bool (decide (i < 0)))=List.replicate d (D.bool false):=by
      apply List.ext_getElem?; intro j
      by_cases hj:j < d
      · simp [hj]
      · rw [List.getElem?_eq_none (by simp; omega),List.getElem?_eq_none (by simp; omega)]
    simp only [st,this]; rfl
  rw [←hst]
  refine zb0 st d (by omega) ?_ ?_
  · intro again k hk
    dsimp only [st]
    have hd:decide ((k:Int) < (d:Int))=true:=by simp; omega
    have hg:((List.range d).map (fun i=>D.bool (decide (i < k))))[k]? =some (.bool false):=by simp [hk]
    rw [hd,zaY,zab (by omega),zab (by simp; omega),Nat.zero_add,show Int.toNat (k:Int)=k from rfl,zan hg,zab (by rfl),zaN,zaq (by omega) (by omega),zab (by simp),zx3 hk]
    rfl
  · intro again
    dsimp only [st]
    have hd:decide ((d:Int) < (d:Int))=false:=by simp
    have hd1:decide ((d:Int) > 0)=true:=by simp; omega
    have hall:(List.range d).map (fun i=>D.bool (decide (i < d)))=(List.replicate d true).map D.bool:=by
      apply List.ext_getElem?; intro j
      by_cases hj:j < d
      · simp [hj]
      · rw [List.getElem?_eq_none (by simp; omega),List.getElem?_eq_none (by simp; omega)]
    have hz:decide ((0:Int) % 3 > 0)=false:=rfl
    have hz2:((0:Int) % 9 == 8)=false:=rfl
    rw [hd,zaw,hd1,zaY,zoa 0 3 (by omega) (by omega),zag,zbE,hz,zaw,zaY,zoa 0 9 (by omega) (by omega),zag,zbE,hz2,zaw,zab (by rfl),hall,zab (zx2 _)]
theorem zAa (tg tg':Tag) {ps qs:List Part} (he:ps.map (·.2)=qs.map (·.2)) (hn:ps.length < 100000) (hl:∀ x∈ps,x.2.length < 1000000000):
    zaO [.sl tg (pL ps),.sl tg' (pL qs)]=some (.bool true):=by
  rw [zkh,zcA,zcA]
  have hm:(ps.map fun x=>(zbJ x.1 x.2,x.2)).map (·.2)=ps.map (·.2):=by rw [List.map_map]; rfl
  have hm':(qs.map fun x=>(zbJ x.1 x.2,x.2)).map (·.2)=qs.map (·.2):=by rw [List.map_map]; rfl
  have hlen:(ps.map fun x=>(zbJ x.1 x.2,x.2)).length=ps.length:=by simp
  have hl':∀ x∈(ps.map fun x=>(zbJ x.1 x.2,x.2)),x.2.length < 1000000000:=by intro x hx; obtain ⟨y,hy,rfl⟩:=List.mem_map.1 hx; exact hl y hy
  rw [←hm,←hm'] at he
  rw [←hlen] at hn
  generalize (ps.map fun x=>(zbJ x.1 x.2,x.2))=xs at*
  generalize (qs.map fun x=>(zbJ x.1 x.2,x.2))=ys at*
  unfold zeX
  have hll:xs.length=ys.length:=by have:=congrArg List.length he; simpa using this
  let st:Nat→(List D×List D×Int×Int×PUnit)×PUnit:=fun k=>((pL xs,pL ys,(ys.length:Int),(k:Int),PUnit.unit),PUnit.unit)
  simp (disch:=first | omega | assumption | (simp; done) | fail) only [zr1,hll,zy8]
  show zcc _ (st 0)=_
  refine zcF st ys.length (by omega) ?_ ?_
  · intro again k hk
    dsimp only [st]
    obtain ⟨x,hx⟩:∃ x,xs[k]? =some x:=⟨_,List.getElem?_eq_getElem (by omega)⟩
    obtain ⟨y,hy⟩:∃ y,ys[k]? =some y:=⟨_,List.getElem?_eq_getElem hk⟩
    have hxy:x.2=y.2:=by
      have:=congrArg (fun l=>l[k]?) he
      simp only [List.getElem?_map,hx,hy] at this
      simpa using this
    have hs:=zuS x.1 y.1 x.2 x.2 (hl' x (List.mem_of_getElem? hx))
    simp (disch:=first | omega | assumption | (simp; done) | fail) [hk,zan (zct hx),zan (zct hy),←hxy,hs,zaq]
  · intro again
    dsimp only [st]
    simp
theorem zx4 (tg tg':Tag) {ls:List (List Int)} (hn:ls.length < 100000) (hl:∀ x∈ls,x.length < 1000000000):zaO [.sl tg (pL (fP ls)),.sl tg' (pL (fP ls))]=some (.bool true):=
  zAa tg tg' rfl (by simpa using hn) (by intro x hx; obtain ⟨y,hy,rfl⟩:=List.mem_map.1 hx; exact hl y hy)
end Wf

namespace Wf
open Go Go.RowKit
universe u
def idf {α:Sort u} (a:α):α:=a
@[simp] theorem zdk {α:Sort u} (a:α):idf a=a:=congrFun (funext fun _=>rfl) a
section
variable {R α β:Type}
@[congr high] theorem zEM {b b':Bool} {x y:Option R} (h:idf b=b'):brK b x y=brK b' x y:=by rw [zdk] at h; rw [h]
@[congr high] theorem zDz {x x':Option α} {f:α→Option R} (h:idf x=x'):zat x f=zat x' f:=by rw [zdk] at h; rw [h]
@[congr high] theorem zEN {c c':Prop} [d:Decidable c] [d':Decidable c'] {x:Option R} (h:idf c=c'):sif c x=sif c' x:=by rw [zdk] at h; subst h; congr
@[congr high] theorem zEw {n n':Int} {f:Int→Option R} (h:idf n=n'):letN n f=letN n' f:=by rw [zdk] at h; rw [h]
@[congr high] theorem zEx {l l':List α} {i i':Nat} {f:α→Option R} (h:idf l=l') (h':idf i=i'):getK l i f=getK l' i' f:=by rw [zdk] at h h'; rw [h,h']
@[congr high] theorem zEO {k:IntKind} {d d':D} {f:Int→Option R} (h:idf d=d'):asI k d f=asI k d' f:=by rw [zdk] at h; rw [h]
@[congr high] theorem zEP {d d':D} {f:Bool→Option R} (h:idf d=d'):asB d f=asB d' f:=by rw [zdk] at h; rw [h]
@[congr high] theorem zEQ {d d':D} {f:ByteArray→Option R} (h:idf d=d'):asS d f=asS d' f:=by rw [zdk] at h; rw [h]
@[congr high] theorem zEy {d d':D} {f:Tag→List D→Option R} (h:idf d=d'):asSl d f=asSl d' f:=by rw [zdk] at h; rw [h]
@[congr high] theorem zDA {d d':D} {f:List D→Option R} (h:idf d=d'):za9 d f=za9 d' f:=by rw [zdk] at h; rw [h]
@[congr high] theorem zDj {d d':D} {f:List D→Option R} (h:idf d=d'):zlk d f=zlk d' f:=by rw [zdk] at h; rw [h]
@[congr high] theorem zDB {d d':D} {f:List D→Option R} (h:idf d=d'):asAgg d f=asAgg d' f:=by rw [zdk] at h; rw [h]
@[congr high] theorem zDC {d d':D} {f:List D→Option R} (h:idf d=d'):zed d f=zed d' f:=by rw [zdk] at h; rw [h]
@[congr high] theorem zEz {d d':D} {f:D→Option R} (h:idf d=d'):asAt d f=asAt d' f:=by rw [zdk] at h; rw [h]
@[congr high] theorem zDD {d d':List D} {f:D→Option R} (h:idf d=d'):zyK d f=zyK d' f:=by rw [zdk] at h; rw [h]
@[congr high] theorem zER {k:Nat} {d d':D} {f:Nat→Option R} (h:idf d=d'):asH k d f=asH k d' f:=by rw [zdk] at h; rw [h]
@[congr high] theorem zDE {d d':D} {f:Bool→Option R} (h:idf d=d'):znr d f=znr d' f:=by rw [zdk] at h; rw [h]
@[congr high] theorem zDk {d d':D} {f:Bool→Option R} (h:idf d=d'):zpE d f=zpE d' f:=by rw [zdk] at h; rw [h]
@[congr high] theorem zDl {kk:MK} {d d':D} {f:List (Int×D)→Option R} (h:idf d=d'):zhG kk d f=zhG kk d' f:=by rw [zdk] at h; rw [h]
@[congr high] theorem zDF {kk:MK} {d d':D} {f:List (Int×D)→Option R} (h:idf d=d'):zpF kk d f=zpF kk d' f:=by rw [zdk] at h; rw [h]
@[congr high] theorem zEA {T T':Tb} {f:Tb→Option R} (h:idf T=T'):letT T f=letT T' f:=by rw [zdk] at h; rw [h]
@[congr high] theorem zDG {l l':List α} {f:α→List α→Option R} (h:idf l=l'):zee l f=zee l' f:=by rw [zdk] at h; rw [h]
@[congr high] theorem zEB {l l':List α} {x:Option R} (h:idf l=l'):nilK l x=nilK l' x:=by rw [zdk] at h; rw [h]
@[congr high] theorem zBC {ls:List Lf} {d d':List D} {f:LfT ls→Option R} (h:idf d=d'):zay ls d f=zay ls d' f:=by rw [zdk] at h; rw [h]
@[congr high] theorem zDH {B:(α→Option R)→α→Option R} {a a':α} (h:idf a=a'):zcc B a=zcc B a':=by rw [zdk] at h; rw [h]
end
@[simp] theorem zES (k i:Nat):ziN (.h k i 0)=true:=rfl
@[simp] theorem zFh (k i:Nat):D.free (.h k i 0)=true:=rfl
@[simp] theorem zB0 {R:Type} (a b:D) (f:LfT [.any,.any]→Option R):zay [.any,.any] [a,b] f=f (a,b,()):=by rw [zeA,zeA,zg5]
@[simp] theorem zET {β:Type} {l:List β} {n:Nat} (h:l.length=n):cut 0 n l=l:=by subst h; exact zc3 l
end Wf

namespace Wf
open Go Go.RowKit Go.Proofs
set_option linter.unusedSimpArgs false
set_option linter.unusedVariables false
set_option maxHeartbeats 4000000
theorem zAb {T0:Tb} {b:Nat} {idx:List Nat}:∀ (l:List Act) (B:Ben),(∀ a∈l,a.isW=false)→P0 T0 b idx (does B l)=P0 T0 b idx B
  | [],B,_=>rfl
  | a::l,B,h=>by
    show P0 T0 b idx (does (B.does1 a) l)=_
    rw [zAb l _ fun a ha=>h a (List.mem_cons_of_mem _ ha)]
    have:=h a (List.mem_cons_self ..)
    cases a with
    | w d a x=>cases this
    | f d=>rfl
theorem zDm (B:Ben) (live:List Bool):∀ a∈B.fActs live,a.isW=false:=by
  intro a ha
  unfold Ben.fActs at ha
  obtain ⟨e,he,ha⟩:=List.mem_flatMap.1 ha
  split at ha
  · rw [List.mem_singleton.1 ha]; rfl
  · cases ha
structure Run (U V:Tb) (b:Nat) (idx:List Nat) (B:Ben) (n:Nat) (K:Int):Prop where
  at':At U V b idx B
  num:B.n=n
  down:B.down=false
  left:B.left= -1
  w:B.w≤K
theorem Run.mono {U V:Tb} {b:Nat} {idx:List Nat} {B:Ben} {n:Nat} {K L:Int} (h:Run U V b idx B n K) (hk:K≤L):Run U V b idx B n L:=⟨h.at',h.num,h.down,h.left,by have:=h.w; omega⟩
theorem zx5 (T0 T1:Tb) {g:Geo} (hk:g.ok=true) {n:Nat} (n0:1≤n) (n8:n≤8) (tg:Tag) (l:List Int):∃ U V idx B,
    zaX [.agg [.int .i64 g.l,.int .i64 g.d,.int .i64 g.c],.int .i64 n,.sl tg (intL l)] [T0,T1]=some (Ans.mk (.h kB T0.length 0) [] [P0 U T0.length idx B,P1 V idx B])∧
    Run U V T0.length idx B n 0∧Still B∧B.w=0∧(∀ d s:Int,0≤d→d < g.d→d < n→0≤s→s < 16→B.cur d (36+s)=atR g s (rowL g l s.toNat) d)∧(∀ d a:Int,0≤d→0≤a→a < 36∨g.d≤d→a < 52→B.cur d a=zdU):=by
  have hF:=zkq (gs:=fun _=>g) (l:=l) n8 (fun _=>hk) 16 (by omega)
  have hat0:=zz1 T0 T1 n8
  refine ⟨_,_,_,_,zEv hk n0 n8 tg l,⟨⟨hat0.b,hat0.nd,hat0.lt,?_,hF.still.ok⟩,hF.num,hF.still.down,hF.left,by rw [hF.w]; omega⟩,hF.still,hF.w,fun d s d0 d1 d2 s0 s1=>?_,fun d a d0 a0 ha a1=>?_⟩
  · have:=hF.num; unfold Ben.n at this; rw [hat0.len]; simp [Ben.new]; omega
  · rw [hF.cur d (36+s) d0 (by omega) (by omega),show (36+s - 36)=s by omega,if_pos ⟨by omega,by omega,d1,d2⟩]
  · rw [hF.cur d a d0 a0 a1,if_neg (fun q=>by omega)]
section
variable {U V:Tb} {b:Nat} {idx:List Nat} {B:Ben} {n:Nat} {K:Int}
theorem Run.up (h:Run U V b idx B n K) {d:Int} (d0:0≤d):B.up (List.replicate n true) d=(decide (d < n) && !B.failed d):=zBZ h.num d0
theorem Run.is (h:Run U V b idx B n K) {d:Int} (d0:0≤d) (d1:d < n):B.is d=true:=zfQ.2 ⟨d0,by rw [h.num]; exact d1⟩
theorem Run.write (h:Run U V b idx B n K) (hK:K≤900000) (tg:Tag) (live:List Bool) {g:Geo} {r:Int} (hr:zcw g r=true) (tg2:Tag) {data:List (List Int)} (hR:Row g data):∃ B1,
    zbL [.h kB b 0,.sl tg (live.map D.bool),.agg [.int .i64 g.l,.int .i64 g.d,.int .i64 g.c],.int .i64 r,.sl tg2 (pL (fP data))] [P0 U b idx B,P1 V idx B]=some (Ans.mk (.int .i64 0) [] [P0 U b idx B1,P1 V idx B1])∧
    Run U V b idx B1 n (K+8)∧(∀ e,B1.failed e=B.failed e)∧B1=does B (B.wActs live g r data)∧(∀ e a:Int,0≤e→e < g.d→0≤a→a < 52→B1.cur e a=if a=36+r∧B.up live e=true then atR g r data e else B.cur e a):=by
  obtain ⟨hw1,hD1⟩:=zwb h.at'.ok h.down (live:=live) hr hR (.inl (by rw [h.left]; omega))
  have hdd:=ok_d (zbT.1 hr).1
  have hw:=h.w
  have hwd:=zdW (zbT.1 hr).1
  have hsw:=zu2 h.at' (by omega) tg live g r tg2 (ps:=fP data) (by have:=hR.len; simp; omega) (by intro x hx; obtain ⟨y,hy,rfl⟩:=List.mem_map.1 hx; exact hR.sec y hy)
  rw [zuX,hw1] at hsw
  have hn:=zxa B live g r data
  have hnx:=hD1.nx.w
  refine ⟨does B (B.wActs live g r data),hsw,⟨h.at'.nx hD1.nx,hD1.nx.n.trans h.num,hD1.down.trans h.down,by rw [hD1.left,h.left]; rfl,by omega⟩,hD1.failed,rfl,fun e a e0 e1 a0 a1=>zz8 hD1 e0 e1 a0 a1⟩
theorem Run.flush (h:Run U V b idx B n K) (hK:K≤900000) (tg:Tag) (live:List Bool):∃ B1,
    zbM [.h kB b 0,.sl tg (live.map D.bool)] [P0 U b idx B,P1 V idx B]=some (Ans.mk (.int .i64 0) [] [P1 V idx B1])∧P0 U b idx B=P0 U b idx B1∧
    Run U V b idx B1 n K∧(∀ e,B1.failed e=B.failed e)∧B1=does B (B.fActs live)∧(∀ e a:Int,0≤e→0≤a→a < 52→B1.cur e a=B.cur e a):=by
  obtain ⟨hw1,hD1⟩:=zwc h.at'.ok h.down live (.inl (by rw [h.left]; omega))
  have hw:=h.w
  have hsf:=zu3 h.at' (by omega) tg live
  rw [hw1] at hsf
  have hnx:=hD1.nx.w
  rw [ztr] at hnx
  refine ⟨does B (B.fActs live),hsf,(zAb _ _ (zDm B live)).symm,⟨h.at'.nx hD1.nx,hD1.nx.n.trans h.num,hD1.down.trans h.down,by rw [hD1.left,h.left,ztr]; rfl,by omega⟩,hD1.failed,rfl,fun e a e0 a0 a1=>zz7 hD1 e0 a0 a1⟩
theorem Run.fail (h:Run U V b idx B n K) {d:Int} (d0:0≤d) (d1:d < n):∃ B1,
    za2 [.h kB b 0,.int .i64 d] [P0 U b idx B,P1 V idx B]=some (Ans.mk (.int .i64 0) [] [P1 V idx B1])∧P0 U b idx B=P0 U b idx B1∧
    Run U V b idx B1 n K∧(∀ e:Int,0≤e→e < n→B1.failed e=(decide (e=d) || B.failed e))∧B1=(B.fail d).2∧(∀ e a:Int,0≤e→e≠d→B1.cur e a=B.cur e a):=by
  have hd:=h.is d0 d1
  obtain ⟨f1,f2,f3,f4,f5⟩:=zz6 hd
  have hf:=zEl h.at' d
  rw [f1] at hf
  have hp:P0 U b idx B=P0 U b idx (B.fail d).2:=by unfold Ben.fail; rw [if_pos hd]; rfl
  have hnx:=zCW (d:=d) h.at'.ok
  refine ⟨(B.fail d).2,hf,hp,⟨h.at'.nx hnx,f2.trans h.num,f3.trans h.down,f4.trans h.left,by rw [f5]; exact h.w⟩,fun e e0 e1=>zwa hd (h.is e0 e1),rfl,fun e a e0 hne=>zBx hd e0 hne⟩
theorem Run.read (h:Run U V b idx B n K) (hK:K≤900000) (tg:Tag) (live:List Bool) (g:Geo) (r:Int):
    zaQ [.h kB b 0,.sl tg (live.map D.bool),.agg [.int .i64 g.l,.int .i64 g.d,.int .i64 g.c],.int .i64 r] [P0 U b idx B,P1 V idx B]=some (Ans.mk (.tup [.sl .own (pL (fP (B.sRead live g r).1)),.int .i64 (B.sRead live g r).2]) [] []):=
  zqF h.at' (by have:=h.w; omega) tg live g r
end
end Wf

namespace Wf
open Go Go.RowKit Go.Proofs
set_option linter.unusedSimpArgs false
set_option linter.unusedVariables false
set_option maxHeartbeats 4000000
@[simp ↓] theorem zFi {R α:Type} (g:α→Option R) (f:(α→Option R)→Option R):jn g f=f g:=rfl
section
variable {T0 T1:Tb} {b:Nat} {idx:List Nat} {B:Ben}
end
end Wf

namespace Wf
open Go Go.RowKit Go.Proofs
set_option linter.unusedSimpArgs false
set_option linter.unusedVariables false
set_option maxHeartbeats 4000000
section
variable {B:Ben}
end
end Wf

namespace Wf
open Go Go.RowKit Go.Proofs
set_option linter.unusedSimpArgs false
set_option linter.unusedVariables false
set_option maxHeartbeats 4000000
end Wf

namespace Wf
open Go Go.RowKit Go.Proofs
set_option linter.unusedVariables false
set_option maxRecDepth 100000
def zdY:Ann:={ loops:=[(3,[.dead,.val (.cell .lent),.dead,.val (.cell (.int .i64)),.dead,.dead,.dead,.dead,.dead,.dead,.dead,.dead,.dead,.box true [(.int .i64),(.int .i64),(.int .i64)],.ptr 3840,.own 1,.own 1,.val (.cell (.int .i64))])],ks:=[(3840,true),(7649,true)] }
noncomputable def zc6:List D→Option D:=denT Try.prog (zaz [(ID.wattleplay_Good,(.pure [0] zbt)),(ID.wattlelaw14_Filled,(.st [] [0] [(3840,true),(7649,true)] zaX)),(ID.wattleplay_Live,(.pure [1] zbv)),(ID.wattlekeep_Within,(.pure [0] zaa)),(ID.wattleref01_Width,(.pure [0] zac)),(ID.wattleplay_Sectors,(.pure [1] zaj)),(ID.stripe_Write,(.st [] [0] [(3840,true),(7649,true)] zbL)),(ID.stripe_Flush,(.st [] [0] [(3840,false),(7649,true)] zbM)),(ID.bench_Bench_Fail,(.st [] [0] [(3840,false),(7649,true)] za2)),(ID.wattlelaw14_Data,(.pure [1] za3)),(ID.stripe_Read,(.st [] [1,0] [(3840,false),(7649,false)] zaQ)),(ID.wattlelaw14_Same,(.pure [0] zaO)),(ID.wattlelaw14_wakes,(.pure [0] za6))]) zdY [0] ID.wattlelaw14_StripeBack
theorem sound_wattlelaw14_StripeBack:za4 Try.prog ID.wattlelaw14_StripeBack (.pure [0] zc6):=zrH (zaB [zkU,ziw,zk6,zcI,zcg,zde,zn5,zn8,zjW,zke,ziU,zkg,zjg]) zbB ⟨Try.f4,by kernel_rfl,by kernel_rfl,by kernel_rfl⟩
noncomputable def zc7 (zbt:List D→Option D) (zaX:List D→List Tb→Option Ans) (zbv:List D→Option D) (zaa:List D→Option D) (zac:List D→Option D) (zaj:List D→Option D) (zbL:List D→List Tb→Option Ans) (zbM:List D→List Tb→Option Ans) (za2:List D→List Tb→Option Ans) (za3:List D→Option D) (zaQ:List D→List Tb→Option Ans) (zaO:List D→Option D) (za6:List D→Option D) (a0:Int) (a1:List D) (a2:List D) (a3:Int) (a4:Int) (a5:Int):Option D:=
  zat (zbt [D.int IntKind.i64 a0]) fun r1=>
  asAgg r1 fun cs2=>
  zay ([Lf.int IntKind.i64,Lf.int IntKind.i64,Lf.int IntKind.i64]) cs2 fun c3=>
  zat (zaX [D.agg [D.int IntKind.i64 c3.fst,D.int IntKind.i64 c3.snd.fst,D.int IntKind.i64 c3.snd.snd.fst],D.int IntKind.i64 c3.snd.fst,D.sl Tag.lent a1] [[],[]]) fun r4=>
  nilK r4.outs <|
  zee r4.tbs fun c5 q6=>
  zee q6 fun c7 q8=>
  nilK q8 <|
  sif (ziN r4.r=true) <|
  znr r4.r fun b9=>
  brK b9
    (some (D.bool false))
    (zat (zbv [D.int IntKind.i64 (0:Int),D.int IntKind.i64 c3.snd.fst]) fun r10=>
    za9 r10 fun l11=>
    zat (zaa [D.int IntKind.i64 a3,D.int IntKind.i64 (16:Int)]) fun r12=>
    asI IntKind.i64 r12 fun i13=>
    zat (zac [D.agg [D.int IntKind.i64 c3.fst,D.int IntKind.i64 c3.snd.fst,D.int IntKind.i64 c3.snd.snd.fst]]) fun r14=>
    asI IntKind.i64 r14 fun i15=>
    zat (zaj [D.sl Tag.lent a2,D.int IntKind.i64 i15]) fun r16=>
    za9 r16 fun l17=>
    sif ((0:Nat)+List.length l11≤List.length l11) <|
    sif ((0:Nat)+List.length l17≤List.length l17) <|
    zat (zbL [r4.r,D.sl Tag.lent (cut (0:Nat) (List.length l11) l11),D.agg [D.int IntKind.i64 c3.fst,D.int IntKind.i64 c3.snd.fst,D.int IntKind.i64 c3.snd.snd.fst],D.int IntKind.i64 i13,D.sl Tag.lent (cut (0:Nat) (List.length l17) l17)] [c5,c7]) fun r18=>
    nilK r18.outs <|
    zee r18.tbs fun c19 q20=>
    zee q20 fun c21 q22=>
    nilK q22 <|
    asI IntKind.i64 r18.r fun i23=>
    brK (i23 != (0:Int))
      (some (D.bool false))
      (sif ((0:Nat)+List.length l11≤List.length l11) <|
      zat (zbM [r4.r,D.sl Tag.lent (cut (0:Nat) (List.length l11) l11)] [c19,c21]) fun r24=>
      nilK r24.outs <|
      zee r24.tbs fun c25 q26=>
      nilK q26 <|
      asI IntKind.i64 r24.r fun i27=>
      brK (i27 != (0:Int))
        (some (D.bool false))
        (zat (zaa [D.int IntKind.i64 a4,D.int IntKind.i64 c3.snd.fst]) fun r28=>
        asI IntKind.i64 r28 fun i29=>
        zat (za2 [r4.r,D.int IntKind.i64 i29] [c19,c25]) fun r30=>
        nilK r30.outs <|
        zee r30.tbs fun c31 q32=>
        nilK q32 <|
        asI IntKind.i64 r30.r fun i33=>
        brK (c3.fst == (6:Int))
          (zat (zaa [D.int IntKind.i64 a5,D.int IntKind.i64 c3.snd.fst]) fun r34=>
          asI IntKind.i64 r34 fun i35=>
          zat (za2 [r4.r,D.int IntKind.i64 i35] [c19,c31]) fun r36=>
          nilK r36.outs <|
          zee r36.tbs fun c37 q38=>
          nilK q38 <|
          asI IntKind.i64 r36.r fun i39=>
          sif (List.length l11=List.length l11) <|
          sif (List.length l17=List.length l17) <|
          zcc (α:=(List D×Int×(Int×Int×Int×PUnit)×D×List D×List D×Int×PUnit)×List (List D)×List (List D)×PUnit) (fun again40 ((l41,(i42,((i43,(i44,(i45,_))),(x46,(l47,(l48,(i49,_))))))),(U50,(U51,_)))=>
            brK (decide (i49 < (16:Int)))
              (zat (za3 [D.agg [D.int IntKind.i64 i43,D.int IntKind.i64 i44,D.int IntKind.i64 i45],D.int IntKind.i64 i49,D.sl Tag.lent l41]) fun r52=>
              za9 r52 fun l53=>
              brK (i49 == i42)
                (sif ((0:Nat)+List.length l47≤List.length l47) <|
                zat (zaQ [x46,D.sl Tag.lent (cut (0:Nat) (List.length l47) l47),D.agg [D.int IntKind.i64 i43,D.int IntKind.i64 i44,D.int IntKind.i64 i45],D.int IntKind.i64 i49] [U50,U51]) fun r54=>
                nilK r54.outs <|
                nilK r54.tbs <|
                zed r54.r fun ts55=>
                zay ([Lf.any,Lf.any]) ts55 fun c56=>
                za9 c56.fst fun l57=>
                asI IntKind.i64 c56.snd.fst fun i58=>
                brK (i58 != (0:Int))
                  (some (D.bool false))
                  (sif ((0:Nat)+List.length l57≤List.length l57) <|
                  sif ((0:Nat)+List.length l48≤List.length l48) <|
                  zat (zaO [D.sl Tag.lent (cut (0:Nat) (List.length l57) l57),D.sl Tag.lent (cut (0:Nat) (List.length l48) l48)]) fun r59=>
                  asB r59 fun b60=>
                  brK (!b60)
                    (some (D.bool false))
                    (letN (IntKind.wrap IntKind.i64 (i49+(1:Int))) fun n61=>
                    sif (List.length l47=List.length l47) <|
                    sif (List.length l48=List.length l48) <|
                    again40 (((l41,i42,(i43,i44,i45,PUnit.unit),x46,l47,l48,n61,PUnit.unit),U50,U51,PUnit.unit)))))
                (sif ((0:Nat)+List.length l47≤List.length l47) <|
                zat (zaQ [x46,D.sl Tag.lent (cut (0:Nat) (List.length l47) l47),D.agg [D.int IntKind.i64 i43,D.int IntKind.i64 i44,D.int IntKind.i64 i45],D.int IntKind.i64 i49] [U50,U51]) fun r62=>
                nilK r62.outs <|
                nilK r62.tbs <|
                zed r62.r fun ts63=>
                zay ([Lf.any,Lf.any]) ts63 fun c64=>
                za9 c64.fst fun l65=>
                asI IntKind.i64 c64.snd.fst fun i66=>
                brK (i66 != (0:Int))
                  (some (D.bool false))
                  (sif ((0:Nat)+List.length l65≤List.length l65) <|
                  sif ((0:Nat)+List.length l53≤List.length l53) <|
                  zat (zaO [D.sl Tag.lent (cut (0:Nat) (List.length l65) l65),D.sl Tag.lent (cut (0:Nat) (List.length l53) l53)]) fun r67=>
                  asB r67 fun b68=>
                  brK (!b68)
                    (some (D.bool false))
                    (letN (IntKind.wrap IntKind.i64 (i49+(1:Int))) fun n69=>
                    sif (List.length l47=List.length l47) <|
                    sif (List.length l48=List.length l48) <|
                    again40 (((l41,i42,(i43,i44,i45,PUnit.unit),x46,l47,l48,n69,PUnit.unit),U50,U51,PUnit.unit))))))
              (zat (za6 []) fun r70=>
              asB r70 fun b71=>
              some (D.bool b71)))
            (((a1,i13,(c3.fst,c3.snd.fst,c3.snd.snd.fst,PUnit.unit),r4.r,l11,l17,(0:Int),PUnit.unit),c19,c37,PUnit.unit)))
          (sif (List.length l11=List.length l11) <|
          sif (List.length l17=List.length l17) <|
          zcc (α:=(List D×Int×(Int×Int×Int×PUnit)×D×List D×List D×Int×PUnit)×List (List D)×List (List D)×PUnit) (fun again72 ((l73,(i74,((i75,(i76,(i77,_))),(x78,(l79,(l80,(i81,_))))))),(U82,(U83,_)))=>
            brK (decide (i81 < (16:Int)))
              (zat (za3 [D.agg [D.int IntKind.i64 i75,D.int IntKind.i64 i76,D.int IntKind.i64 i77],D.int IntKind.i64 i81,D.sl Tag.lent l73]) fun r84=>
              za9 r84 fun l85=>
              brK (i81 == i74)
                (sif ((0:Nat)+List.length l79≤List.length l79) <|
                zat (zaQ [x78,D.sl Tag.lent (cut (0:Nat) (List.length l79) l79),D.agg [D.int IntKind.i64 i75,D.int IntKind.i64 i76,D.int IntKind.i64 i77],D.int IntKind.i64 i81] [U82,U83]) fun r86=>
                nilK r86.outs <|
                nilK r86.tbs <|
                zed r86.r fun ts87=>
                zay ([Lf.any,Lf.any]) ts87 fun c88=>
                za9 c88.fst fun l89=>
                asI IntKind.i64 c88.snd.fst fun i90=>
                brK (i90 != (0:Int))
                  (some (D.bool false))
                  (sif ((0:Nat)+List.length l89≤List.length l89) <|
                  sif ((0:Nat)+List.length l80≤List.length l80) <|
                  zat (zaO [D.sl Tag.lent (cut (0:Nat) (List.length l89) l89),D.sl Tag.lent (cut (0:Nat) (List.length l80) l80)]) fun r91=>
                  asB r91 fun b92=>
                  brK (!b92)
                    (some (D.bool false))
                    (letN (IntKind.wrap IntKind.i64 (i81+(1:Int))) fun n93=>
                    sif (List.length l79=List.length l79) <|
                    sif (List.length l80=List.length l80) <|
                    again72 (((l73,i74,(i75,i76,i77,PUnit.unit),x78,l79,l80,n93,PUnit.unit),U82,U83,PUnit.unit)))))
                (sif ((0:Nat)+List.length l79≤List.length l79) <|
                zat (zaQ [x78,D.sl Tag.lent (cut (0:Nat) (List.length l79) l79),D.agg [D.int IntKind.i64 i75,D.int IntKind.i64 i76,D.int IntKind.i64 i77],D.int IntKind.i64 i81] [U82,U83]) fun r94=>
                nilK r94.outs <|
                nilK r94.tbs <|
                zed r94.r fun ts95=>
                zay ([Lf.any,Lf.any]) ts95 fun c96=>
                za9 c96.fst fun l97=>
                asI IntKind.i64 c96.snd.fst fun i98=>
                brK (i98 != (0:Int))
                  (some (D.bool false))
                  (sif ((0:Nat)+List.length l97≤List.length l97) <|
                  sif ((0:Nat)+List.length l85≤List.length l85) <|
                  zat (zaO [D.sl Tag.lent (cut (0:Nat) (List.length l97) l97),D.sl Tag.lent (cut (0:Nat) (List.length l85) l85)]) fun r99=>
                  asB r99 fun b100=>
                  brK (!b100)
                    (some (D.bool false))
                    (letN (IntKind.wrap IntKind.i64 (i81+(1:Int))) fun n101=>
                    sif (List.length l79=List.length l79) <|
                    sif (List.length l80=List.length l80) <|
                    again72 (((l73,i74,(i75,i76,i77,PUnit.unit),x78,l79,l80,n101,PUnit.unit),U82,U83,PUnit.unit))))))
              (zat (za6 []) fun r102=>
              asB r102 fun b103=>
              some (D.bool b103)))
            (((a1,i13,(c3.fst,c3.snd.fst,c3.snd.snd.fst,PUnit.unit),r4.r,l11,l17,(0:Int),PUnit.unit),c19,c31,PUnit.unit))))))
theorem zh5 (zbt:List D→Option D) (zaX:List D→List Tb→Option Ans) (zbv:List D→Option D) (zaa:List D→Option D) (zac:List D→Option D) (zaj:List D→Option D) (zbL:List D→List Tb→Option Ans) (zbM:List D→List Tb→Option Ans) (za2:List D→List Tb→Option Ans) (za3:List D→Option D) (zaQ:List D→List Tb→Option Ans) (zaO:List D→Option D) (za6:List D→Option D) (tga1:Tag) (tga2:Tag) (a0:Int) (a1:List D) (a2:List D) (a3:Int) (a4:Int) (a5:Int):denT Try.prog (zaz [(ID.wattleplay_Good,(.pure [0] zbt)),(ID.wattlelaw14_Filled,(.st [] [0] [(3840,true),(7649,true)] zaX)),(ID.wattleplay_Live,(.pure [1] zbv)),(ID.wattlekeep_Within,(.pure [0] zaa)),(ID.wattleref01_Width,(.pure [0] zac)),(ID.wattleplay_Sectors,(.pure [1] zaj)),(ID.stripe_Write,(.st [] [0] [(3840,true),(7649,true)] zbL)),(ID.stripe_Flush,(.st [] [0] [(3840,false),(7649,true)] zbM)),(ID.bench_Bench_Fail,(.st [] [0] [(3840,false),(7649,true)] za2)),(ID.wattlelaw14_Data,(.pure [1] za3)),(ID.stripe_Read,(.st [] [1,0] [(3840,false),(7649,false)] zaQ)),(ID.wattlelaw14_Same,(.pure [0] zaO)),(ID.wattlelaw14_wakes,(.pure [0] za6))]) zdY [0] ID.wattlelaw14_StripeBack [.int .i64 a0,.sl tga1 a1,.sl tga2 a2,.int .i64 a3,.int .i64 a4,.int .i64 a5]=sif (D.nohL [.int .i64 a0,.sl tga1 a1,.sl tga2 a2,.int .i64 a3,.int .i64 a4,.int .i64 a5]=true) (zc7 zbt zaX zbv zaa zac zaj zbL zbM za2 za3 zaQ zaO za6 a0 (D.lentL a1) (D.lentL a2) a3 a4 a5):=by kernel_rfl
theorem zgS (tga1:Tag) (tga2:Tag) (a0:Int) (a1:List D) (a2:List D) (a3:Int) (a4:Int) (a5:Int):zc6 [.int .i64 a0,.sl tga1 a1,.sl tga2 a2,.int .i64 a3,.int .i64 a4,.int .i64 a5]=sif (D.nohL [.int .i64 a0,.sl tga1 a1,.sl tga2 a2,.int .i64 a3,.int .i64 a4,.int .i64 a5]=true) (zc7 zbt zaX zbv zaa zac zaj zbL zbM za2 za3 zaQ zaO za6 a0 (D.lentL a1) (D.lentL a2) a3 a4 a5):=zh5 zbt zaX zbv zaa zac zaj zbL zbM za2 za3 zaQ zaO za6 tga1 tga2 a0 a1 a2 a3 a4 a5
end Wf

namespace Wf
open Go Go.RowKit Go.Proofs
set_option linter.unusedSimpArgs false
set_option linter.unusedVariables false
set_option maxHeartbeats 4000000
theorem stripe_back (a0:Int) (l m:List Int) (a3 a4 a5:Int) (tg tg':Tag):zc6 [.int .i64 a0,.sl tg (intL l),.sl tg' (intL m),.int .i64 a3,.int .i64 a4,.int .i64 a5]=some (.bool true):=by
  rw [zgS,zjC,zjC]
  rw [zab (by simp [D.nohL,D.noh,zAG])]
  unfold zc7
  have hgood:=zzE a0
  have hk:=zxK a0
  generalize zuz a0=g at*
  have hgD:g.D=.agg [.int .i64 g.l,.int .i64 g.d,.int .i64 g.c]:=rfl
  rw [hgD] at hgood
  have hdd:=ok_d hk
  have hll:=zg7.1 hk
  have hww:=zdW hk
  have hdn:((g.d.toNat:Nat):Int)=g.d:=by omega
  have hfr:=zx5 [] [] hk (n:=g.d.toNat) (by omega) (by omega) .lent l
  simp only [List.length_nil] at hfr
  obtain ⟨U,V,idx,B0,hfil,hB0,hS0,hw0,hc0,_⟩:=hfr
  rw [hdn] at hfil
  have hlive:=zBB (d:=g.d.toNat) (by omega) (by omega)
  rw [hdn] at hlive
  have hr:=zoa a3 16 (by omega) (by omega)
  have hr0:=Int.emod_nonneg a3 (show (16:Int)≠0 by omega)
  have hr1:=Int.emod_lt_of_pos a3 (show (0:Int) < 16 by omega)
  generalize a3 % 16=r at*
  have hfine:zcw g r=true:=zbT.2 ⟨hk,hr0,hr1⟩
  have hsp:=zko .lent m (n:=g.width.toNat) (by omega)
  rw [show ((g.width.toNat:Nat):Int)=g.width by omega] at hsp
  have hR:Row g (secL m g.width.toNat):=⟨by simp; omega,zto _ _⟩
  generalize secL m g.width.toNat=data at*
  obtain ⟨B1,e1,hB1,f1,_,c1⟩:=hB0.write (by omega) .lent (List.replicate g.d.toNat true) hfine .lent hR
  obtain ⟨B2,e2,q2,hB2,f2,_,c2⟩:=hB1.flush (by omega) .lent (List.replicate g.d.toNat true)
  have ha:=zoa a4 g.d (by omega) (by omega)
  have ha0:=Int.emod_nonneg a4 (show g.d≠0 by omega)
  have ha1:=Int.emod_lt_of_pos a4 (show 0 < g.d by omega)
  have hb:=zoa a5 g.d (by omega) (by omega)
  have hb0:=Int.emod_nonneg a5 (show g.d≠0 by omega)
  have hb1:=Int.emod_lt_of_pos a5 (show 0 < g.d by omega)
  generalize a4 % g.d=xa at*
  generalize a5 % g.d=xb at*
  obtain ⟨B3,e3,q3,hB3,f3,_,c3⟩:=hB2.fail (d:=xa) ha0 (by omega)
  obtain ⟨B4,e4,q4,hB4,f4,_,c4⟩:=hB3.fail (d:=xb) hb0 (by omega)
  rw [←q2] at e3
  rw [←q3,←q2] at e4
  have cur2:∀ d s:Int,0≤d→d < g.d→0≤s→s < 16→B2.cur d (36+s)=atR g s (if s=r then data else rowL g l s.toNat) d:=by
    intro d s d0 d1 s0 s1
    have hu:B0.up (List.replicate g.d.toNat true) d=true:=by rw [hB0.up d0,hS0.failed]; simp; omega
    rw [c2 d _ d0 (by omega) (by omega),c1 d _ d0 d1 (by omega) (by omega)]
    by_cases e:s=r
    · subst e; rw [if_pos ⟨rfl,hu⟩,if_pos rfl]
    · rw [if_neg (fun q=>e (by omega)),if_neg e,hc0 d s d0 d1 (by omega) s0 s1]
  have rd:∀ (B:Ben) (K:Int),Run U V 0 idx B g.d.toNat K→(∀ d s:Int,0≤d→d < g.d→B.failed d=false→0≤s→s < 16→B.cur d (36+s)=atR g s (if s=r then data else rowL g l s.toNat) d)→
      (B.lostN (List.replicate g.d.toNat true) g:Int)≤g.l - 4→∀ s:Nat,s < 16→B.sRead (List.replicate g.d.toNat true) g s=(if (s:Int)=r then data else rowL g l s,0):=by
    intro B K hB hc hlo s hs
    have hsf:zcw g (s:Int)=true:=zbT.2 ⟨hk,by omega,by omega⟩
    have hRs:Row g (if (s:Int)=r then data else rowL g l s):=by split; exact hR; exact znk hk l s
    rw [zw0 hsf hRs hB.down fun d d0 d1 hu=>by
      have:=hc d s d0 d1 (by rw [hB.up d0] at hu; simp at hu; exact hu.2) (by omega) (by omega)
      rw [Int.toNat_natCast] at this; exact this,if_pos hlo]
  have cur3:∀ d s:Int,0≤d→d < g.d→B3.failed d=false→0≤s→s < 16→B3.cur d (36+s)=atR g s (if s=r then data else rowL g l s.toNat) d:=by
    intro d s d0 d1 hf s0 s1
    rw [f3 d d0 (by omega)] at hf
    rw [c3 d _ d0 (fun e=>by simp [e] at hf),cur2 d s d0 d1 s0 s1]
  have cur4:∀ d s:Int,0≤d→d < g.d→B4.failed d=false→0≤s→s < 16→B4.cur d (36+s)=atR g s (if s=r then data else rowL g l s.toNat) d:=by
    intro d s d0 d1 hf s0 s1
    rw [f4 d d0 (by omega)] at hf
    rw [c4 d _ d0 (fun e=>by simp [e] at hf),cur3 d s d0 d1 (by simp at hf; exact hf.2) s0 s1]
  have fl:∀ d,0≤d→d < g.d→B2.failed d=false:=fun d d0 d1=>by rw [f2,f1,hS0.failed]
  have lost3:(B3.lostN (List.replicate g.d.toNat true) g:Int)≤1:=by
    have:B3.lostN (List.replicate g.d.toNat true) g≤1:=by
      unfold Ben.lostN
      refine zz5 (a:=xa.toNat) fun i hi hp=>?_
      rw [hB3.up (by omega),f3 _ (by omega) (by omega),fl _ (by omega) (by omega)] at hp
      simp at hp
      omega
    omega
  have lost4:(B4.lostN (List.replicate g.d.toNat true) g:Int)≤2:=by
    have:B4.lostN (List.replicate g.d.toNat true) g≤2:=by
      unfold Ben.lostN
      refine Nat.le_trans (zu7 (a:=xa.toNat) (b:=xb.toNat) _ fun i hi hp=>?_) (by split<;>split<;>omega)
      rw [hB4.up (by omega),f4 _ (by omega) (by omega),f3 _ (by omega) (by omega),fl _ (by omega) (by omega)] at hp
      simp at hp
      omega
    omega
  have hlvl:((List.replicate g.d.toNat true).map D.bool).length=g.d.toNat:=by simp
  have hdl:=hR.len
  have hrd3:=fun s=>hB3.read (by omega) .lent (List.replicate g.d.toNat true) g s
  have hrd4:=fun s=>hB4.read (by omega) .lent (List.replicate g.d.toNat true) g s
  simp only [←q3,←q2] at hrd3
  simp only [←q4,←q3,←q2] at hrd4
  have rd3:=rd B3 _ hB3 cur3
  have rd4:=rd B4 _ hB4 cur4
  clear rd
  generalize List.replicate g.d.toNat true=live at*
  have hdata:∀ s:Nat,za3 [.agg [.int .i64 g.l,.int .i64 g.d,.int .i64 g.c],.int .i64 s,.sl .lent (intL l)]=some (.sl .own (pL (fP (rowL g l s)))):=fun s=>zz4 g hk s (by omega) .lent l
  have hsm:∀ (tg tg':Tag) {x:List (List Int)},Row g x→zaO [.sl tg (pL (fP x)),.sl tg' (pL (fP x))]=some (.bool true):=fun tg tg' x hx=>zx4 tg tg' (by have:=hx.len; omega) (fun y hy=>by have:=(hx.sec y hy).len; omega)
  have hone:g.l≠6→g.l=5:=by omega
  by_cases h6:g.l=6
  · have hb6:∀ x y:Option D,brK (g.l == 6) x y=x:=zy7 h6
    have rd4:=rd4 (by omega)
    simp (disch:=first | omega | assumption | (simp; done) | fail) [-List.all_eq_true,hgood,hfil,hlive,hr,zgi,hsp,e1,e2,ha,e3,hb6,hb,e4]
    let st:Nat→(List D×Int×(Int×Int×Int×PUnit)×D×List D×List D×Int×PUnit)×List (List D)×List (List D)×PUnit:=fun k=>((intL l,r,(g.l,g.d,g.c,PUnit.unit),.h kB 0 0,live.map D.bool,pL (fP data),(k:Int),PUnit.unit),P0 U 0 idx B1,P1 V idx B4,PUnit.unit)
    show zcc _ (st 0)=_
    refine zcF st 16 (by omega) ?_ ?_
    · intro again k hk'
      dsimp only [st]
      have hx:=rd4 k hk'
      have hy:=hrd4 k
      rw [hx] at hy
      have hk16:(k:Int) < 16:=by omega
      by_cases he:(k:Int)=r
      · rw [if_pos he] at hy
        have hbe:∀ x y:Option D,brK ((k:Int) == r) x y=x:=zy7 he
        simp (disch:=first | omega | assumption | (simp; done) | fail) [-List.all_eq_true,hk16,hdata,hbe,hy,hsm _ _ hR,zaq]
      · rw [if_neg he] at hy
        simp (disch:=first | omega | assumption | (simp; done) | fail) [-List.all_eq_true,hk16,hdata,he,hy,hsm _ _ (znk hk l k),zaq]
    · intro again
      dsimp only [st]
      simp [zz9]
  · have hb6:∀ x y:Option D,brK (g.l == 6) x y=y:=zD1 h6
    have rd3:=rd3 (by omega)
    simp (disch:=first | omega | assumption | (simp; done) | fail) [-List.all_eq_true,hgood,hfil,hlive,hr,zgi,hsp,e1,e2,ha,e3,hb6]
    let st:Nat→(List D×Int×(Int×Int×Int×PUnit)×D×List D×List D×Int×PUnit)×List (List D)×List (List D)×PUnit:=fun k=>((intL l,r,(g.l,g.d,g.c,PUnit.unit),.h kB 0 0,live.map D.bool,pL (fP data),(k:Int),PUnit.unit),P0 U 0 idx B1,P1 V idx B3,PUnit.unit)
    show zcc _ (st 0)=_
    refine zcF st 16 (by omega) ?_ ?_
    · intro again k hk'
      dsimp only [st]
      have hx:=rd3 k hk'
      have hy:=hrd3 k
      rw [hx] at hy
      have hk16:(k:Int) < 16:=by omega
      by_cases he:(k:Int)=r
      · rw [if_pos he] at hy
        have hbe:∀ x y:Option D,brK ((k:Int) == r) x y=x:=zy7 he
        simp (disch:=first | omega | assumption | (simp; done) | fail) [-List.all_eq_true,hk16,hdata,hbe,hy,hsm _ _ hR,zaq]
      · rw [if_neg he] at hy
        simp (disch:=first | omega | assumption | (simp; done) | fail) [-List.all_eq_true,hk16,hdata,he,hy,hsm _ _ (znk hk l k),zaq]
    · intro again
      dsimp only [st]
      simp [zz9]
end Wf

