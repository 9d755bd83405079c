/- A part of the proof: lemmas that the law's row leans on. -/
import Derived.Test.YtlbdpbbpoghncaaPe
import Derived.Test.YtlbdpbbpoghncaaPd
set_option linter.all false
namespace Wf
open Go Go.RowKit Go.Proofs
set_option linter.unusedSimpArgs false
set_option linter.unusedVariables false
def znQ (b:Int) (k:Nat) (s:Int×Int):Int×Int:=
  (if IntKind.i64.wrap (s.1*2) > 255 then bits .xor .i64 (IntKind.i64.wrap (s.1*2)) 285 else IntKind.i64.wrap (s.1*2),
   if bits .and .u8 (b.fdiv (2 ^ min k 8)) 1=1 then bits .xor .i64 s.2 s.1 else s.2)
def zd5 (a b:Int):Nat→Int×Int
  | 0=>(IntKind.i64.wrap a,0)
  | k+1=>znQ b k (zd5 a b k)
def zev (a b:Int):Int:=IntKind.u8.wrap (zd5 a b 8).2
theorem zzh (a b:Int):zaM [.int .u8 a,.int .u8 b]=some (.int .u8 (zev a b)):=by
  rw [zkN]
  unfold zfc
  rw [zaQ]
  refine zb0 (fun k=>((b,(zd5 a b k).1,(zd5 a b k).2,(k:Int),PUnit.unit),PUnit.unit)) 8 (by omega) ?_ ?_
  · intro again k hk
    dsimp only
    have hd:decide ((k:Int) < 8)=true:=by simp; omega
    rw [hd,za5,zaQ,zAc (by omega) (by omega),zac (by omega),zaQ,zaQ,Int.toNat_natCast]
    have hs:zd5 a b (k+1)=znQ b k (zd5 a b k):=rfl
    have hk1:IntKind.i64.wrap ((k:Int)+1)=((k+1:Nat):Int):=by rw [zag (by omega) (by omega)]; rfl
    rw [hs]
    unfold znQ
    by_cases hb:bits .and .u8 (b.fdiv (2 ^ min k 8)) 1=1
    · have hb':(bits .and .u8 (b.fdiv (2 ^ min k 8)) 1 == 1)=true:=by simp [hb]
      rw [hb',za5,zaQ,zaQ,if_pos hb]
      by_cases hx:IntKind.i64.wrap ((zd5 a b k).1*2) > 255
      · have hx':decide (IntKind.i64.wrap ((zd5 a b k).1*2) > 255)=true:=by simp [hx]
        rw [hx',za5,zaQ,zaQ,hk1,if_pos hx]
      · have hx':decide (IntKind.i64.wrap ((zd5 a b k).1*2) > 255)=false:=by simp; omega
        rw [hx',zaA,zaQ,hk1,if_neg hx]
    · have hb':(bits .and .u8 (b.fdiv (2 ^ min k 8)) 1 == 1)=false:=by simp [hb]
      rw [hb',zaA,zaQ,if_neg hb]
      by_cases hx:IntKind.i64.wrap ((zd5 a b k).1*2) > 255
      · have hx':decide (IntKind.i64.wrap ((zd5 a b k).1*2) > 255)=true:=by simp [hx]
        rw [hx',za5,zaQ,zaQ,hk1,if_pos hx]
      · have hx':decide (IntKind.i64.wrap ((zd5 a b k).1*2) > 255)=false:=by simp; omega
        rw [hx',zaA,zaQ,hk1,if_neg hx]
  · intro again
    dsimp only
    have hd:decide (((8:Nat):Int) < 8)=false:=by simp
    rw [hd,zaA,zaQ]
    rfl
def zdI:Nat→Int
  | 0=>1
  | k+1=>zev (zdI k) 2
theorem zCy (k:Nat) (hk:k < 255):zbr [.int .i64 k]=some (.int .u8 (zdI k)):=by
  rw [zkP]
  unfold zfd
  have e1:Int.tmod (k:Int) 255=k:=by rw [Int.tmod_eq_emod_of_nonneg (by omega),Int.emod_eq_of_lt (by omega) (by omega)]
  have hd:decide ((k:Int) < 0)=false:=by simp
  rw [zaQ,e1,hd,zaA]
  let st:Nat→(Int×Int×PUnit)×PUnit:=fun j=>(((k:Int) - (j:Int),zdI j,PUnit.unit),PUnit.unit)
  have hst:st 0=(((k:Int),1,PUnit.unit),PUnit.unit):=by simp [st,zdI]
  rw [←hst]
  refine zb0 st k (by omega) ?_ ?_
  · intro again j hj
    dsimp only [st]
    have hd:decide ((k:Int) - (j:Int) > 0)=true:=by simp; omega
    rw [hd,za5,zzh,zai,zbF,zaQ,zag (by omega) (by omega)]
    have:(k:Int) - (j:Int) - 1=(k:Int) - ((j+1:Nat):Int):=by omega
    rw [this]
    rfl
  · intro again
    dsimp only [st]
    have hd:decide ((k:Int) - (k:Int) > 0)=false:=by simp
    rw [hd,zaA]
def mixL (f:Int→Int→Int) (acc p:List Int) (j:Nat):List Int:=(List.zipWith f acc p).take j++acc.drop j
theorem zwx {f:Int→Int→Int} {acc p:List Int} (h:p.length=acc.length) {j:Nat} (hj:j≤acc.length):(mixL f acc p j).length=acc.length:=by
  unfold mixL; simp [h]; omega
theorem zwy {f:Int→Int→Int} {acc p:List Int} (h:p.length=acc.length) {j:Nat} (hj:j < acc.length):(mixL f acc p j)[j]? =some acc[j]:=by
  unfold mixL
  rw [List.getElem?_append_right (by simp; omega)]
  simp [h]
  rw [show j - min j acc.length=0 by omega]
  simp [hj]
theorem zwz {f:Int→Int→Int} {acc p:List Int} (h:p.length=acc.length) {j:Nat} (hj:j < acc.length):(mixL f acc p j).set j (f acc[j] (p[j]'(by omega)))=mixL f acc p (j+1):=by
  unfold mixL
  have hl:((List.zipWith f acc p).take j).length=j:=by simp [h]; omega
  rw [List.set_append_right _ _ (by omega),hl,Nat.sub_self,List.take_add_one,List.drop_eq_getElem_cons hj,List.set_cons_zero]
  simp [List.getElem?_zipWith,hj,h]
theorem zwA {f:Int→Int→Int} {acc p:List Int} (h:p.length=acc.length):mixL f acc p acc.length=List.zipWith f acc p:=by
  unfold mixL
  rw [List.drop_of_length_le (Nat.le_refl _),List.append_nil,List.take_of_length_le (by simp; omega)]
theorem zuu (f:Int→Int→Int) (acc p:List Int):mixL f acc p 0=acc:=by simp [mixL]
def sumR (F:Nat→Int→Int) (n:Nat) (ls:List (List Int)):Nat→List Int
  | 0=>List.replicate n 0
  | k+1=>List.zipWith (fun a x=>xor8 a (F k x)) (sumR F n ls k) (ls.getD k [])
theorem zsS {F:Nat→Int→Int} {n:Nat} {ls:List (List Int)} (h:∀ l∈ls,l.length=n):∀ {k:Nat},k≤ls.length→(sumR F n ls k).length=n
  | 0,_=>by simp [sumR]
  | k+1,hk=>by
    have e:ls.getD k []=ls[k]:=by simp [List.getD_eq_getElem?_getD,List.getElem?_eq_getElem (show k < ls.length by omega)]
    simp only [sumR,List.length_zipWith,e,zsS h (show k≤ls.length by omega),h _ (List.getElem_mem (show k < ls.length by omega))]
    omega
def refP (n:Nat) (ls:List (List Int)):List Int:=sumR (fun _ x=>x) n ls ls.length
def refQ (n:Nat) (ls:List (List Int)):List Int:=sumR (fun k x=>zev x (zdI k)) n ls ls.length
theorem zuv (tg:Tag) {ps:List Part} {n:Nat} (h0:0 < ps.length) (h1:ps.length < 100000) (h:∀ x∈ps,x.2.length=n):zaC [.sl tg (pL ps)]=some (.bool true):=by
  rw [zi4,zdh]
  have hlen:(ps.map fun x=>(zb7 x.1 x.2,x.2)).length=ps.length:=by simp
  have hl':∀ x∈(ps.map fun x=>(zb7 x.1 x.2,x.2)),x.2.length=n:=by intro x hx; obtain ⟨y,hy,rfl⟩:=List.mem_map.1 hx; exact h y hy
  rw [←hlen] at h0 h1
  generalize (ps.map fun x=>(zb7 x.1 x.2,x.2))=rs at*
  unfold zel
  obtain ⟨x0,hx0⟩:∃ x,rs[0]? =some x:=⟨_,List.getElem?_eq_getElem h0⟩
  refine zb0 (fun k=>((pL rs,pL rs,((pL rs).length:Int),(k:Int),PUnit.unit),PUnit.unit)) rs.length h1 ?_ ?_
  · intro again k hk
    dsimp only
    obtain ⟨x,hx⟩:∃ x,rs[k]? =some x:=⟨_,List.getElem?_eq_getElem hk⟩
    have hd:decide ((k:Int) < ((pL rs).length:Int))=true:=by simp; omega
    have hb:(((uL x.2).length:Int) != ((uL x0.2).length:Int))=false:=by simp [hl' x (List.mem_of_getElem? hx),hl' x0 (List.mem_of_getElem? hx0)]
    rw [hd,za5,zac (by omega),zas (by simpa using zcX hx),ze8,zas (zcX hx0),ze8,hb,zaA,zaQ,zag (by omega) (by omega)]
    rfl
  · intro again
    have hd:decide ((rs.length:Int) < ((pL rs).length:Int))=false:=by simp
    have hd2:decide (((pL rs).length:Int) > 0)=true:=by simp; omega
    dsimp only
    rw [hd,zaA,hd2]
theorem zEC (tg:Tag) {ps:List Part} {n:Nat} (hn:n < 100000) (h0:0 < ps.length) (h1:ps.length < 100000) (h:∀ x∈ps,x.2.length=n):zbI [.sl tg (pL ps)]=some (.sl .own (uL (refP n (ps.map (·.2))))):=by
  rw [zmC,zdh]
  have hlen:(ps.map fun x=>(zb7 x.1 x.2,x.2)).length=ps.length:=by simp
  have hm:(ps.map fun x=>(zb7 x.1 x.2,x.2)).map (·.2)=ps.map (·.2):=by rw [List.map_map]; rfl
  have hl':∀ x∈(ps.map fun x=>(zb7 x.1 x.2,x.2)),x.2.length=n:=by intro x hx; obtain ⟨y,hy,rfl⟩:=List.mem_map.1 hx; exact h y hy
  rw [←hlen] at h0 h1
  rw [←hm]
  generalize (ps.map fun x=>(zb7 x.1 x.2,x.2))=rs at*
  clear hm hlen h ps
  unfold zgu
  obtain ⟨x0,hx0⟩:∃ x,rs[0]? =some x:=⟨_,List.getElem?_eq_getElem h0⟩
  have hls:∀ l∈rs.map (·.2),l.length=n:=by intro l hl; obtain ⟨y,hy,rfl⟩:=List.mem_map.1 hl; exact hl' y hy
  rw [zuv .lent h0 h1 hl',zai,zdp,Bool.not_true,zaA,zas (zcX hx0),ze8,zac (by rfl),zdT,hl' x0 (List.mem_of_getElem? hx0),zac (by omega),zac (by omega),zac (by simp),Int.toNat_natCast,zoa]
  let st:Nat→(List D×List D×Int×Int×PUnit)×PUnit:=fun k=>((uL (sumR (fun _ x=>x) n (rs.map (·.2)) k),pL rs,((pL rs).length:Int),(k:Int),PUnit.unit),PUnit.unit)
  have hst:st 0=((uL (List.replicate n 0),pL rs,((pL rs).length:Int),0,PUnit.unit),PUnit.unit):=rfl
  rw [←hst]
  refine zb0 st rs.length h1 ?_ ?_
  · intro again k hk
    dsimp only [st]
    obtain ⟨x,hx⟩:∃ x,rs[k]? =some x:=⟨_,List.getElem?_eq_getElem hk⟩
    have hxl:=hl' x (List.mem_of_getElem? hx)
    have hd:decide ((k:Int) < ((pL rs).length:Int))=true:=by simp; omega
    have hsl:=zsS (F:=fun _ x=>x) hls (k:=k) (by simp; omega)
    have hxe:x.2.length=(sumR (fun _ x=>x) n (rs.map (·.2)) k).length:=by omega
    rw [hd,za5,zac (by omega),zas (by simpa using zcX hx),ze8,zac (by rfl)]
    let s2:Nat→(List D×List D×Int×Int×(Tag×List D)×Int×Int×PUnit)×PUnit:=fun j=>((uL (mixL (fun a x=>xor8 a x) (sumR (fun _ x=>x) n (rs.map (·.2)) k) x.2 j),pL rs,((pL rs).length:Int),(k:Int),(x.1,uL x.2),((uL x.2).length:Int),(j:Int),PUnit.unit),PUnit.unit)
    have hs2:s2 0=((uL (sumR (fun _ x=>x) n (rs.map (·.2)) k),pL rs,((pL rs).length:Int),(k:Int),(x.1,uL x.2),((uL x.2).length:Int),0,PUnit.unit),PUnit.unit):=by simp only [s2,zuu]; rfl
    rw [←hs2]
    refine zb0 s2 x.2.length (by omega) ?_ ?_
    · intro again2 j hj
      dsimp only [s2]
      have hd:decide ((j:Int) < ((uL x.2).length:Int))=true:=by simp; omega
      have g1:x.2[j]? =some x.2[j]:=List.getElem?_eq_getElem hj
      have g2:=zwy (f:=fun a x=>xor8 a x) hxe (j:=j) (by omega)
      have ml:=zwx (f:=fun a x=>xor8 a x) hxe (j:=j) (by omega)
      have ms:=zwz (f:=fun a x=>xor8 a x) hxe (j:=j) (by omega)
      rw [hd,za5,zac (by omega),zas (by simpa using ziO g1),zbF,zac (by omega),zac (by rw [zdT,ml]; omega),zas (by simpa using ziO g2),zbF,zaQ,zac (by omega),zac (by rw [zdT,ml]; omega),zas (by simpa using ziO g2),zac (by rfl),zaQ,
        zag (by omega) (by omega),zac (by simp),Nat.zero_add,zyR,show Int.toNat (j:Int)=j from rfl,ms]
      rfl
    · intro again2
      dsimp only [s2]
      have hd:decide ((x.2.length:Int) < ((uL x.2).length:Int))=false:=by simp
      have me:mixL (fun a x=>xor8 a x) (sumR (fun _ x=>x) n (rs.map (·.2)) k) x.2 x.2.length=sumR (fun _ x=>x) n (rs.map (·.2)) (k+1):=by
        rw [hxe,zwA hxe]
        have:(rs.map (·.2)).getD k []=x.2:=by simp [List.getD_eq_getElem?_getD,hx]
        simp only [sumR,this]
      rw [hd,zaA,zaQ,zag (by omega) (by omega),zac (by rfl),me]
      rfl
  · intro again
    dsimp only [st]
    have hd:decide ((rs.length:Int) < ((pL rs).length:Int))=false:=by simp
    rw [hd,zaA,zac (by rfl),zac (zgr _)]
    simp [refP]
theorem zED (tg:Tag) {ps:List Part} {n:Nat} (hn:n < 100000) (h0:0 < ps.length) (h1:ps.length < 255) (h:∀ x∈ps,x.2.length=n):zbJ [.sl tg (pL ps)]=some (.sl .own (uL (refQ n (ps.map (·.2))))):=by
  rw [zmE,zdh]
  have hlen:(ps.map fun x=>(zb7 x.1 x.2,x.2)).length=ps.length:=by simp
  have hm:(ps.map fun x=>(zb7 x.1 x.2,x.2)).map (·.2)=ps.map (·.2):=by rw [List.map_map]; rfl
  have hl':∀ x∈(ps.map fun x=>(zb7 x.1 x.2,x.2)),x.2.length=n:=by intro x hx; obtain ⟨y,hy,rfl⟩:=List.mem_map.1 hx; exact h y hy
  rw [←hlen] at h0 h1
  rw [←hm]
  generalize (ps.map fun x=>(zb7 x.1 x.2,x.2))=rs at*
  clear hm hlen h ps
  unfold zgx
  obtain ⟨x0,hx0⟩:∃ x,rs[0]? =some x:=⟨_,List.getElem?_eq_getElem h0⟩
  have hls:∀ l∈rs.map (·.2),l.length=n:=by intro l hl; obtain ⟨y,hy,rfl⟩:=List.mem_map.1 hl; exact hl' y hy
  rw [zuv .lent h0 (by omega) hl',zai,zdp,Bool.not_true,zaA,zas (zcX hx0),ze8,zac (by rfl),zdT,hl' x0 (List.mem_of_getElem? hx0),zac (by omega),zac (by omega),zac (by simp),Int.toNat_natCast,zoa]
  let st:Nat→(List D×List D×Int×Int×PUnit)×PUnit:=fun k=>((uL (sumR (fun k x=>zev x (zdI k)) n (rs.map (·.2)) k),pL rs,((pL rs).length:Int),(k:Int),PUnit.unit),PUnit.unit)
  have hst:st 0=((uL (List.replicate n 0),pL rs,((pL rs).length:Int),0,PUnit.unit),PUnit.unit):=rfl
  rw [←hst]
  refine zb0 st rs.length (by omega) ?_ ?_
  · intro again k hk
    dsimp only [st]
    obtain ⟨x,hx⟩:∃ x,rs[k]? =some x:=⟨_,List.getElem?_eq_getElem hk⟩
    have hxl:=hl' x (List.mem_of_getElem? hx)
    have hd:decide ((k:Int) < ((pL rs).length:Int))=true:=by simp; omega
    have hsl:=zsS (F:=fun k x=>zev x (zdI k)) hls (k:=k) (by simp; omega)
    have hxe:x.2.length=(sumR (fun k x=>zev x (zdI k)) n (rs.map (·.2)) k).length:=by omega
    rw [hd,za5,zac (by omega),zas (by simpa using zcX hx),ze8,zCy k (by omega),zai,zbF,zac (by rfl)]
    let s2:Nat→(List D×Int×List D×Int×Int×(Tag×List D)×Int×Int×PUnit)×PUnit:=fun j=>((uL (mixL (fun a x=>xor8 a (zev x (zdI k))) (sumR (fun k x=>zev x (zdI k)) n (rs.map (·.2)) k) x.2 j),zdI k,pL rs,((pL rs).length:Int),(k:Int),(x.1,uL x.2),((uL x.2).length:Int),(j:Int),PUnit.unit),PUnit.unit)
    have hs2:s2 0=((uL (sumR (fun k x=>zev x (zdI k)) n (rs.map (·.2)) k),zdI k,pL rs,((pL rs).length:Int),(k:Int),(x.1,uL x.2),((uL x.2).length:Int),0,PUnit.unit),PUnit.unit):=by simp only [s2,zuu]; rfl
    rw [←hs2]
    refine zb0 s2 x.2.length (by omega) ?_ ?_
    · intro again2 j hj
      dsimp only [s2]
      have hd:decide ((j:Int) < ((uL x.2).length:Int))=true:=by simp; omega
      have g1:x.2[j]? =some x.2[j]:=List.getElem?_eq_getElem hj
      have g2:=zwy (f:=fun a x=>xor8 a (zev x (zdI k))) hxe (j:=j) (by omega)
      have ml:=zwx (f:=fun a x=>xor8 a (zev x (zdI k))) hxe (j:=j) (by omega)
      have ms:=zwz (f:=fun a x=>xor8 a (zev x (zdI k))) hxe (j:=j) (by omega)
      rw [hd,za5,zac (by omega),zas (by simpa using ziO g1),zbF,zac (by omega),zac (by rw [zdT,ml]; omega),zas (by simpa using ziO g2),zbF,zzh,zai,zbF,zaQ,zac (by omega),zac (by rw [zdT,ml]; omega),zas (by simpa using ziO g2),zac (by rfl),zaQ,
        zag (by omega) (by omega),zac (by simp),Nat.zero_add,zyR,show Int.toNat (j:Int)=j from rfl,ms]
      rfl
    · intro again2
      dsimp only [s2]
      have hd:decide ((x.2.length:Int) < ((uL x.2).length:Int))=false:=by simp
      have me:mixL (fun a x=>xor8 a (zev x (zdI k))) (sumR (fun k x=>zev x (zdI k)) n (rs.map (·.2)) k) x.2 x.2.length=sumR (fun k x=>zev x (zdI k)) n (rs.map (·.2)) (k+1):=by
        rw [hxe,zwA hxe]
        have:(rs.map (·.2)).getD k []=x.2:=by simp [List.getD_eq_getElem?_getD,hx]
        simp only [sumR,this]
      rw [hd,zaA,zaQ,zag (by omega) (by omega),zac (by rfl),me]
      rfl
  · intro again
    dsimp only [st]
    have hd:decide ((rs.length:Int) < ((pL rs).length:Int))=false:=by simp
    rw [hd,zaA,zac (by rfl),zac (zgr _)]
    simp [refQ]
def zli (n:Int) (i:Nat):Int:=IntKind.u8.wrap (IntKind.i64.wrap (n+IntKind.i64.wrap ((i:Int)*bits .or .i64 (IntKind.i64.wrap (n.tdiv 7)) 1)))
def secN (n:Int):List Int:=if n % 11=10 then List.replicate 32 0 else (List.range 32).map (zli n)
theorem zAM (n:Int):Sec (secN n):=by
  unfold secN
  split
  · exact zmv
  · refine ⟨by simp,fun x h=>?_⟩
    obtain ⟨i,_,rfl⟩:=List.mem_map.1 h
    exact zpE _
theorem zqa (n:Int):za1 [.int .i64 n]=some (.sl .own (uL (secN n))):=by
  rw [zi1]
  unfold zek
  rw [ziK n 11 (by omega) (by omega),zai,zbF]
  unfold secN
  by_cases h:n % 11=10
  · rw [if_pos h]; simp [h]; rfl
  · rw [if_neg h]
    have hb:(n % 11 == 10)=false:=by simp [h]
    rw [hb,zaA]
    have:=zb0 (R:=D) (α:=(Int×List D×Int×Int×PUnit)×PUnit)
      (fun k=>((n,uL ((List.range 32).map fun i=>if i < k then zli n i else 0),32,(k:Int),PUnit.unit),PUnit.unit)) 32 (by omega)
      (B:=?B) (r:=some (.sl .own (uL ((List.range 32).map (zli n))))) ?_ ?_
    · exact this
    · intro again k hk
      dsimp only
      have hd:decide ((k:Int) < 32)=true:=by simp; omega
      have hg:((List.range 32).map fun i=>if i < k then zli n i else 0)[k]? =some 0:=by simp [hk]
      have hv:zli n k=IntKind.u8.wrap (IntKind.i64.wrap (n+IntKind.i64.wrap ((k:Int)*bits .or .i64 (IntKind.i64.wrap (n.tdiv 7)) 1))):=rfl
      rw [hd,za5,zaQ,zaQ,zaQ,zaQ,zaQ,←hv,zac (by omega),zac (by simp; omega),zas (by simpa using ziO hg)]
      rw [zac (by rfl),zaQ,zag (n:=(k:Int)+1) (by omega) (by omega),zac (by simp)]
      have:(uL ((List.range 32).map fun i=>if i < k then zli n i else 0)).set (0+Int.toNat (k:Int)) (.int .u8 (zli n k))=uL ((List.range 32).map fun i=>if i < k+1 then zli n i else 0):=by
        rw [zyR]
        congr 1
        apply List.ext_getElem?
        intro j
        rw [List.getElem?_set]
        by_cases hj:j < 32
        · by_cases hjk:k=j
          · subst hjk; simp [hj]
          · have:(0+Int.toNat (k:Int))≠j:=by simp; exact hjk
            rw [if_neg this]
            simp [hj]
            by_cases h1:j < k
            · rw [if_pos h1,if_pos (by omega)]
            · rw [if_neg h1,if_neg (by omega)]
        · simp [hj]
          omega
      rw [this]
      rfl
    · intro again
      have e:((List.range 32).map fun i=>if i < 32 then zli n i else 0)=(List.range 32).map (zli n):=by
        apply List.map_congr_left; intro i hi; rw [if_pos (List.mem_range.1 hi)]
      dsimp only
      rw [e]
      simp
def secL (l:List Int) (n:Nat):List (List Int):=(List.range n).map fun (i:Nat)=>secN (l.getD i (3*(i:Int)))
theorem zwB (l:List Int) (n:Nat):∀ x∈secL l n,Sec x:=by
  intro x hx; obtain ⟨i,_,rfl⟩:=List.mem_map.1 hx; exact zAM _
@[simp] theorem zEd (l:List Int) (n:Nat):(secL l n).length=n:=by simp [secL]
theorem zCz (ls:List (List Int)) (l:List Int):pL (fP ls)++[.sl .fresh (uL l)]=pL (fP (ls++[l])):=by simp [pL,fP]
theorem zoh (tg:Tag) (l:List Int) {n:Nat} (hn:n < 100000):zav [.sl tg (intL l),.int .i64 n]=some (.sl .own (pL (fP (secL l n)))):=by
  rw [ziu,zmp]
  unfold zdX
  let st:Nat→(List D×Int×List D×Int×PUnit)×PUnit:=fun k=>((intL l,(n:Int),pL (fP (secL l k)),(k:Int),PUnit.unit),PUnit.unit)
  show zb3 _ (st 0)=_
  refine zb0 st n hn ?_ ?_
  · intro again k hk
    dsimp only [st]
    have hd:decide ((k:Int) < (n:Int))=true:=by simp; omega
    have hs:secL l (k+1)=secL l k++[secN (l.getD k (3*(k:Int)))]:=by unfold secL; rw [List.range_succ,List.map_append]; rfl
    rw [hd,za5,zaQ,zfl,hs,←zCz]
    by_cases hkl:k < l.length
    · have hd2:decide ((k:Int) < (l.length:Int))=true:=by simp; omega
      have hg:l.getD k (3*(k:Int))=l[k]:=by simp [List.getD_eq_getElem?_getD,hkl]
      rw [hd2,za5,zac (by omega),zas (by simpa using zz9 hkl),zbF,zqa,zai,zbW,zac (by omega),zac (by simp; omega),zac (by rfl),zaQ,zag (n:=(k:Int)+1) (by omega) (by omega),zc0,zac (by simp),hg]
      rfl
    · have hd2:decide ((k:Int) < (l.length:Int))=false:=by simp; omega
      have hg:l.getD k (3*(k:Int))=3*(k:Int):=by simp [List.getD_eq_getElem?_getD,List.getElem?_eq_none (show l.length≤k by omega)]
      rw [hd2,zaA,zag (n:=3*(k:Int)) (by omega) (by omega),zqa,zai,zbW,zac (by omega),zac (by simp; omega),zac (by rfl),zaQ,zag (n:=(k:Int)+1) (by omega) (by omega),zc0,zac (by simp),hg]
      rfl
  · intro again
    dsimp only [st]
    have hd:decide ((n:Int) < (n:Int))=false:=by simp
    rw [hd,zaA,zac (by rfl),zac (zgL _)]
def zkB (b:Nat) (k:Nat) (s:Nat×Nat):Nat×Nat:=
  (if 255 < s.1*2 then (s.1*2) ^^^ 285 else s.1*2,if b / 2 ^ k % 2=1 then s.2 ^^^ s.1 else s.2)
def zcs (a b:Nat):Nat→Nat×Nat
  | 0=>(a,0)
  | k+1=>zkB b k (zcs a b k)
theorem zCA {m n k:Nat} (hm:m < 2 ^ k) (hn:n < 2 ^ k):m ^^^ n < 2 ^ k:=Nat.xor_lt_two_pow hm hn
theorem zDR (m n:Nat) (hm:m < 1024) (hn:n < 1024):bits .xor .i64 (m:Int) (n:Int)=((m ^^^ n:Nat):Int):=by
  have h:m ^^^ n < 2 ^ 10:=zCA (by omega) (by omega)
  have e:((BitVec.ofInt 64 (m:Int)) ^^^ (BitVec.ofInt 64 (n:Int))).toNat=m ^^^ n:=by
    rw [BitVec.toNat_xor]
    simp [Nat.mod_eq_of_lt (show m < 18446744073709551616 by omega),Nat.mod_eq_of_lt (show n < 18446744073709551616 by omega)]
  show IntKind.i64.wrap (((BitVec.ofInt 64 (m:Int)) ^^^ (BitVec.ofInt 64 (n:Int))).toNat:Int)=_
  rw [e]
  exact zag (by omega) (by omega)
theorem zqb {a b:Nat} (ha:a < 256) (hb:b < 256):∀ k,k≤8→(zd5 a b k).1=((zcs a b k).1:Int)∧(zd5 a b k).2=((zcs a b k).2:Int)∧(zcs a b k).1 < 256∧(zcs a b k).2 < 256
  | 0,_=>⟨zag (by omega) (by omega),rfl,ha,by show 0 < 256; omega⟩
  | k+1,hk=>by
    obtain ⟨h1,h2,h3,h4⟩:=zqb ha hb k (by omega)
    have w:IntKind.i64.wrap (((zcs a b k).1:Int)*2)=(((zcs a b k).1*2:Nat):Int):=by rw [zag (by omega) (by omega)]; omega
    have hx:(zcs a b k).2 ^^^ (zcs a b k).1 < 256:=zmr h4 h3
    have hbk:bits .and .u8 ((b:Int).fdiv (2 ^ min k 8)) 1=((b / 2 ^ k % 2:Nat):Int):=by
      have e:((b:Int).fdiv (2 ^ min k 8))=((b / 2 ^ k:Nat):Int):=by
        rw [show min k 8=k by omega,Int.fdiv_eq_ediv_of_nonneg _ (by exact_mod_cast Nat.zero_le (2 ^ k))]
        simp
      rw [e]
      exact and1 _ (Nat.lt_of_le_of_lt (Nat.div_le_self _ _) hb)
    have hd:∀ x < 256,255 < x*2→(x*2) ^^^ 285 < 256:=by decide+kernel
    show (znQ b k (zd5 a b k)).1=((zkB b k (zcs a b k)).1:Int)∧(znQ b k (zd5 a b k)).2=((zkB b k (zcs a b k)).2:Int)∧(zkB b k (zcs a b k)).1 < 256∧(zkB b k (zcs a b k)).2 < 256
    unfold znQ zkB
    rw [h1,h2,hbk,w,zDR _ _ (by omega) (by omega)]
    have hx2:=zDR ((zcs a b k).1*2) 285 (by omega) (by omega)
    refine ⟨?_,?_,?_,?_⟩
    · dsimp only
      split
      · rw [if_pos (by omega)]; exact hx2
      · rw [if_neg (by omega)]
    · dsimp only
      split
      · rw [if_pos (by omega)]
      · rw [if_neg (by omega)]
    · dsimp only
      split
      · exact hd _ h3 (by assumption)
      · omega
    · dsimp only
      split
      · exact hx
      · exact h4
theorem zry {a b:Nat} (ha:a < 256) (hb:b < 256):zev a b=((zcs a b 8).2:Int)∧(zcs a b 8).2 < 256:=by
  obtain ⟨_,h2,_,h4⟩:=zqb ha hb 8 (Nat.le_refl _)
  unfold zev
  rw [h2]
  exact ⟨zu3 (by omega) (by omega),h4⟩
def znR:Nat→Nat
  | 0=>1
  | k+1=>(zcs (znR k) 2 8).2
theorem zrz:∀ k,zdI k=(znR k:Int)∧znR k < 256
  | 0=>⟨rfl,by decide⟩
  | k+1=>by
    obtain ⟨h1,h2⟩:=zrz k
    show zev (zdI k) 2=((zcs (znR k) 2 8).2:Int)∧(zcs (znR k) 2 8).2 < 256
    have:=zry h2 (show 2 < 256 by omega)
    rw [show ((2:Nat):Int)=2 from rfl] at this
    rw [h1]; exact this
theorem zuw:∀ k < 7,∀ x < 256,(zcs x (znR k) 8).2=mN x (powN k):=by decide+kernel
theorem zvz {x:Int} (h:Byt x) {k:Nat} (hk:k < 7):zev x (zdI k)=mul8 x (pow8 k):=by
  obtain ⟨m,hm,rfl⟩:=zeg h
  obtain ⟨h1,h2⟩:=zrz k
  have e1:=(zry hm h2).1
  have e2:=(zdQ hm (zhf k)).1
  have e3:=zuw k hk m hm
  rw [h1,zkw,e1,e2,e3]
theorem zzi {F:Nat→Int→Int} {f:Nat→Int} {ls:List (List Int)} (h:∀ l∈ls,Sec l) (hF:∀ k x,k < ls.length→Byt x→F k x=mul8 x (f k)):∀ {k:Nat},k≤ls.length→sumR F 32 ls k=sumK f 32 ls k
  | 0,_=>rfl
  | k+1,hk=>by
    have hs:=h _ (zdr (show k < ls.length by omega))
    show List.zipWith (fun a x=>xor8 a (F k x)) (sumR F 32 ls k) (ls.getD k [])=List.zipWith xor8 (sumK f 32 ls k) ((ls.getD k []).map (mul8 · (f k)))
    rw [zzi h hF (by omega),List.zipWith_map_right]
    apply List.ext_getElem?
    intro i
    rw [List.getElem?_zipWith,List.getElem?_zipWith]
    cases e1:(sumK f 32 ls k)[i]? with
    | none=>rfl
    | some a=>
      cases e2:(ls.getD k [])[i]? with
      | none=>rfl
      | some x=>simp only; rw [hF k x (by omega) (hs.byt x (List.mem_of_getElem? e2))]
theorem zAN {ls:List (List Int)} (h:∀ l∈ls,Sec l):refP 32 ls=sumP 32 ls:=by
  have:=zzi (F:=fun _ x=>x) (f:=fun _=>1) h (fun _ x _ hx=>(zoG hx).symm) (Nat.le_refl ls.length)
  exact this
theorem zAO {ls:List (List Int)} (h:∀ l∈ls,Sec l) (h7:ls.length≤7):refQ 32 ls=sumQ 32 ls:=by
  have:=zzi (F:=fun k x=>zev x (zdI k)) (f:=pow8) h (fun k x hk hx=>zvz hx (by omega)) (Nat.le_refl ls.length)
  exact this
end Wf

namespace Wf
open Go Go.RowKit Go.Proofs
set_option linter.unusedSimpArgs false
set_option linter.unusedVariables false
set_option maxHeartbeats 4000000
section
variable (g:Geo) (row k n:Int)
theorem zvA:zeb [.agg [.int .i64 g.l,.int .i64 g.d,.int .i64 g.c],.int .i64 row]=some (.bool (zb5 g row)):=by
  rw [zvk]
  unfold zsx
  rw [show D.agg [.int .i64 g.l,.int .i64 g.d,.int .i64 g.c]=gD g.l g.d g.c from rfl,zh5,zai]
  show asI IntKind.i64 (.int .i64 _) _=_
  rw [zbF]
  unfold zb5
  cases h:g.ok
  · have:zeW g.l g.d g.c=false:=h
    simp [this]
  · have:zeW g.l g.d g.c=true:=h
    by_cases h0:0≤row
    · simp [this,h0]
    · simp [this,h0]
theorem zrA:zaW [.agg [.int .i64 g.l,.int .i64 g.d,.int .i64 g.c],.int .i64 row]=some (.tup [.int .i64 (parP g row).1,.int .i64 (parP g row).2]):=zun g row
theorem zvB:zbd [.agg [.int .i64 g.l,.int .i64 g.d,.int .i64 g.c],.int .i64 row,.int .i64 k]=some (.int .i64 (zch g row k)):=zrx g row k
theorem zxq:zaj [.agg [.int .i64 g.l,.int .i64 g.d,.int .i64 g.c]]=some (.int .i64 g.width):=zkg g
theorem zux:zaE [.agg [.int .i64 g.l,.int .i64 g.d,.int .i64 g.c],.int .i64 row,.int .i64 k]=some (.int .i64 (zch g row k)):=zAA g row k
theorem zsT:zah [.agg [.int .i64 g.l,.int .i64 g.d,.int .i64 g.c],.int .i64 row]=some (.tup [.int .i64 (parP g row).1,.int .i64 (parP g row).2]):=zy9 g row
theorem zqc:zaf [.agg [.int .i64 g.l,.int .i64 g.d,.int .i64 g.c],.int .i64 row]=some (.bool (zb5 g row)):=zoN g row
theorem zge:zaa [.agg [.int .i64 g.l,.int .i64 g.d,.int .i64 g.c]]=some (.int .i64 g.width):=znO g
theorem zzj:zcB [.agg [.int .i64 g.l,.int .i64 g.d,.int .i64 g.c],.int .i64 n]=some (.tup [.int .i64 (ofP g n).1,.int .i64 (ofP g n).2.1,.bool (ofP g n).2.2]):=zAB g n
theorem zvC:zbD [.agg [.int .i64 g.l,.int .i64 g.d,.int .i64 g.c],.int .i64 row]=some (.sl .own (zsq g row)):=zxn g row
theorem zzk:zaN [.agg [.int .i64 g.l,.int .i64 g.d,.int .i64 g.c],.int .i64 row]=some (.sl .own (zsq g row)):=zAC g row
end
def zkh (g:Geo) (row:Int) (ls:List (List Int)):Nat→List Part
  | 0=>List.replicate g.d.toNat (Tag.nil,[])
  | k+1=>(zkh g row ls k).set (zch g row (k:Int)).toNat (Tag.fresh,ls.getD k [])
def zzl (g:Geo) (row:Int) (ls:List (List Int)) (p q:List Int):List Part:=
  if (parP g row).2 < 0 then (zkh g row ls g.width.toNat).set (parP g row).1.toNat (Tag.fresh,p)
  else ((zkh g row ls g.width.toNat).set (parP g row).1.toNat (Tag.fresh,p)).set (parP g row).2.toNat (Tag.fresh,q)
theorem zgM (g:Geo) (row:Int) (ls:List (List Int)) (k:Nat):(zkh g row ls k).length=g.d.toNat:=by
  induction k with
  | zero=>simp [zkh]
  | succ k ih=>simp [zkh,ih]
theorem zxr (g:Geo) (row:Int) (ls:List (List Int)) (k:Nat):∀ x∈zkh g row ls k,Part.free x=true:=by
  induction k with
  | zero=>intro x hx; rw [(List.mem_replicate.1 hx).2]; rfl
  | succ k ih=>
    intro x hx
    rcases List.mem_or_eq_of_mem_set hx with hx | hx
    · exact ih x hx
    · rw [hx]; rfl
theorem zwC {ps:List Part} (h:∀ x∈ps,Part.free x=true) (i:Nat) (l:List Int):∀ x∈ps.set i (Tag.fresh,l),Part.free x=true:=by
  intro x hx
  rcases List.mem_or_eq_of_mem_set hx with hx | hx
  · exact h x hx
  · rw [hx]; rfl
theorem zoO (t:Tag) (l:List D):D.isAgg (.sl t l)=false:=rfl
theorem zAP (n:Nat):pL (List.replicate n (Tag.nil,[]))=List.replicate n (D.sl .nil []):=by simp [pL,uL]
section
variable {g:Geo} {row:Int} (h:zb5 g row=true)
include h
theorem zwD {ls:List (List Int)} {d:Int} (d0:0≤d) (d1:d < g.d) (h1:d≠(parP g row).1) (h2:d≠(parP g row).2):∀ k:Nat,(k:Int)≤g.width→
    (zkh g row ls k)[d.toNat]? =some (if ze9 g d row < k then (Tag.fresh,ls.getD (ze9 g d row).toNat []) else (Tag.nil,[]))
  | 0,_=>by
    obtain ⟨c0,c1,c2⟩:=zkA h d0 d1 h1 h2
    unfold zkh
    rw [List.getElem?_replicate,if_pos (by omega),if_neg (by omega)]
  | k+1,hk=>by
    obtain ⟨c0,c1,c2⟩:=zkA h d0 d1 h1 h2
    have hdi:=zin h (k:=(k:Int)) (by omega) (by omega)
    have ih:=zwD (ls:=ls) d0 d1 h1 h2 k (by omega)
    unfold zkh
    rw [List.getElem?_set]
    by_cases e:ze9 g d row=k
    · have e2:zch g row k=d:=by rw [←e]; exact c2
      rw [if_pos (by rw [e2]),if_pos (by rw [zgM,e2]; omega),if_pos (by omega)]
      congr 3
      rw [e]; rfl
    · have e2:zch g row k≠d:=fun e2=>e (zpH h c0 c1 (by omega) (by omega) (by rw [c2,e2]))
      rw [if_neg (by omega),ih]
      by_cases hlt:ze9 g d row < k
      · rw [if_pos hlt,if_pos (by omega)]
      · rw [if_neg hlt,if_neg (by omega)]
theorem zxs (ls:List (List Int)) (p q:List Int) (hp:p=sumP 32 ls) (hq:q=sumQ 32 ls∨g.l=5):zzl g row ls p q=fP (zc1 g row ls):=by
  obtain ⟨hk,r0,r1⟩:=zbE.1 h
  have hw:=zb2 hk
  obtain ⟨p0,p1,p2⟩:=znp h
  have hpq:=zBf h
  have hlen:(zzl g row ls p q).length=g.d.toNat:=by unfold zzl; split<;>simp [zgM]
  apply List.ext_getElem?
  intro i
  by_cases hi:i < g.d.toNat
  · have hr:(fP (zc1 g row ls))[i]? =some (Tag.fresh,atR g row ls i):=zww (znq (by omega))
    rw [hr]
    have hbase:∀ d:Int,0≤d→d < g.d→d≠(parP g row).1→d≠(parP g row).2→(zkh g row ls g.width.toNat)[d.toNat]? =some (Tag.fresh,atR g row ls d):=by
      intro d d0 d1 n1 n2
      obtain ⟨c0,c1,c2⟩:=zkA h d0 d1 n1 n2
      rw [zwD h d0 d1 n1 n2 _ (by omega),if_pos (by omega)]
      unfold atR
      rw [if_neg n1,if_neg n2]
    unfold zzl
    by_cases e1:(i:Int)=(parP g row).1
    · have ha:atR g row ls i=p:=by rw [e1,at_p h,hp]
      rw [ha]
      split
      · rw [List.getElem?_set,if_pos (by omega),if_pos (by rw [zgM]; omega)]
      · rw [List.getElem?_set,if_neg (by omega),List.getElem?_set,if_pos (by omega),if_pos (by rw [zgM]; omega)]
    · by_cases e2:(i:Int)=(parP g row).2
      · have ha:atR g row ls i=sumQ 32 ls:=by rw [e2,at_q h]
        have h6:¬ (parP g row).2 < 0:=by omega
        rw [ha,if_neg h6,List.getElem?_set,if_pos (by omega),if_pos (by rw [List.length_set,zgM]; omega)]
        rcases hq with hq | hq
        · rw [hq]
        · rcases p2 with ⟨e,_⟩ | ⟨_,_,e⟩<;>omega
      · have:=hbase i (by omega) (by omega) e1 e2
        rw [Int.toNat_natCast] at this
        split
        · rw [List.getElem?_set,if_neg (by omega),this]
        · rw [List.getElem?_set,if_neg (by omega),List.getElem?_set,if_neg (by omega),this]
  · rw [List.getElem?_eq_none (by omega),List.getElem?_eq_none (by simp [zrm]; omega)]
end
end Wf

namespace Wf
open Go Go.RowKit Go.Proofs
set_option linter.unusedSimpArgs false
set_option linter.unusedVariables false
set_option maxHeartbeats 4000000
def zfn (g:Geo) (row:Int) (rs:List Part) (k:Nat):List Part:=(List.range k).map fun (j:Nat)=>rs.getD (zch g row (j:Int)).toNat (.nil,[])
theorem zuy (g:Geo) (row:Int) (rs:List Part):(zfn g row rs g.width.toNat).map (·.2)=zfA g row (rs.map (·.2)):=by
  unfold zfn zfA
  rw [List.map_map]
  apply List.map_congr_left
  intro j _
  simp [List.getD_eq_getElem?_getD]
  cases rs[(zch g row (j:Int)).toNat]? <;>rfl
theorem zsU (g:Geo) (row:Int) (rs:List Part) {k:Nat} {x:Part} (h:rs[(zch g row (k:Int)).toNat]? =some x):zfn g row rs (k+1)=zfn g row rs k++[x]:=by
  unfold zfn
  rw [List.range_succ,List.map_append]
  simp [List.getD_eq_getElem?_getD,h]
theorem zuz {R:Type} (a b:D) (f:LfT [.any,.any]→Option R):zay [.any,.any] [a,b] f=f (a,b,()):=by rw [zdC,zdC,zer]
theorem zAQ (g:Geo) (row:Int) (tg:Tag) {ps:List Part} (hn:ps.length < 100000):
    zcK [.agg [.int .i64 g.l,.int .i64 g.d,.int .i64 g.c],.int .i64 row,.sl tg (pL ps)]=some (solD (zst g row (ps.map (·.2)))):=by
  rw [zsL,zdh]
  have hm:(ps.map fun x=>(zb7 x.1 x.2,x.2)).map (·.2)=ps.map (·.2):=by rw [List.map_map]; rfl
  have hlen:(ps.map fun x=>(zb7 x.1 x.2,x.2)).length=ps.length:=by simp
  rw [←hm]
  rw [←hlen] at hn
  generalize (ps.map fun x=>(zb7 x.1 x.2,x.2))=rs at*
  clear hm hlen ps
  unfold znI zst
  cases h:zb5 g row
  · simp [zvA,h,solD]
  by_cases hl:(rs.length:Int)=g.d
  · rw [if_pos ⟨rfl,by simp [hl]⟩]
    have hk:=(zbE.1 h).1
    have hw:=zb2 hk
    have hdd:=ok_d hk
    have hb:((((pL rs).length:Nat):Int) != g.d)=false:=by simp [hl]
    rw [zvA,zai,zdp,h,Bool.not_true,zaA,hb,zaA,zxq,zai,zbF]
    let st:Nat→(Int×List D×(Int×Int×Int×PUnit)×List D×Int×Int×PUnit)×PUnit:=fun k=>((row,pL rs,(g.l,g.d,g.c,PUnit.unit),pL (zfn g row rs k),g.width,(k:Int),PUnit.unit),PUnit.unit)
    have hst:st 0=((row,pL rs,(g.l,g.d,g.c,PUnit.unit),[],g.width,0,PUnit.unit),PUnit.unit):=rfl
    rw [←hst]
    refine zcu st g.width.toNat (by omega) ?_ ?_
    · intro again k hk'
      dsimp only [st]
      have hd:(k:Int) < g.width:=by omega
      have hdi:=zin h (k:=(k:Int)) (by omega) (by omega)
      obtain ⟨x,hx⟩:∃ x,rs[(zch g row (k:Int)).toNat]? =some x:=⟨_,List.getElem?_eq_getElem (by omega)⟩
      have hpl:(zfn g row rs k).length=k:=by simp [zfn]
      simp (disch:=first | omega | assumption | (simp; done) | fail) [-List.all_eq_true,hd,zvB,hdi.1,zas (zcX hx),hpl,zag,zzd,zsU g row rs hx]
    · intro again
      dsimp only [st]
      have hd:¬ ((g.width.toNat:Nat):Int) < g.width:=by omega
      obtain ⟨p0,p1,p2⟩:=znp h
      obtain ⟨xp,hxp⟩:∃ x,rs[(parP g row).1.toNat]? =some x:=⟨_,List.getElem?_eq_getElem (by omega)⟩
      have hpo:pOf g row (rs.map (·.2))=xp.2:=by unfold pOf; simp [List.getD_eq_getElem?_getD,hxp]
      have hrl:(zfn g row rs g.width.toNat).length < 100000:=by simp [zfn]; omega
      have hsol:=fun tq q=>zAL xp.1 tq .lent xp.2 q hrl
      rw [zuy] at hsol
      rw [hpo]
      rcases p2 with ⟨p2,_⟩ | ⟨q0,q1,_⟩
      · have hqo:qOf g row (rs.map (·.2))=[]:=by unfold qOf; rw [if_pos (by omega)]
        have hq:(parP g row).2 < 0:=by omega
        have hs:=hsol .nil []
        rw [show uL []=([]:List D) from rfl] at hs
        rw [hqo]
        simp (disch:=first | omega | assumption | (simp; done) | fail) [-List.all_eq_true,zvx,hd,zrA,hq,p0,zas (zcX hxp),hs]
        cases zmw xp.2 [] (zfA g row (rs.map (·.2)))<;>simp [-List.all_eq_true,solD,zgL]
      · obtain ⟨xq,hxq⟩:∃ x,rs[(parP g row).2.toNat]? =some x:=⟨_,List.getElem?_eq_getElem (by omega)⟩
        have hqo:qOf g row (rs.map (·.2))=xq.2:=by unfold qOf; rw [if_neg (by omega)]; simp [List.getD_eq_getElem?_getD,hxq]
        have hq:¬ (parP g row).2 < 0:=by omega
        rw [hqo]
        simp (disch:=first | omega | assumption | (simp; done) | fail) [-List.all_eq_true,zvx,hd,zrA,hq,p0,q0,zas (zcX hxp),zas (zcX hxq),hsol]
        cases zmw xp.2 xq.2 (zfA g row (rs.map (·.2)))<;>simp [-List.all_eq_true,solD,zgL]
  · have h2:¬ (true=true∧(((rs.map (·.2)).length:Nat):Int)=g.d):=by rintro ⟨_,e⟩; simp at e; exact hl e
    rw [if_neg h2]
    simp [zvA,h,solD,hl]
theorem zAR (g:Geo) (row:Int) (tg:Tag) {ps:List Part} (hn:ps.length < 100000) (hs:∀ x∈ps,Sec x.2):
    zbf [.agg [.int .i64 g.l,.int .i64 g.d,.int .i64 g.c],.int .i64 row,.sl tg (pL ps)]=some (solD (zAq g row (ps.map (·.2)))):=by
  rw [zjL,zdh]
  have hlen:(ps.map fun x=>(zb7 x.1 x.2,x.2)).length=ps.length:=by simp
  have hm:(ps.map fun x=>(zb7 x.1 x.2,x.2)).map (·.2)=ps.map (·.2):=by rw [List.map_map]; rfl
  have hs':∀ x∈(ps.map fun x=>(zb7 x.1 x.2,x.2)),Sec x.2:=by intro x hx; obtain ⟨y,hy,rfl⟩:=List.mem_map.1 hx; exact hs y hy
  rw [←hlen] at hn
  rw [←hm]
  generalize (ps.map fun x=>(zb7 x.1 x.2,x.2))=rs at*
  clear hm hlen hs ps
  unfold zeJ zAq
  have hsl:∀ x∈rs.map (·.2),Sec x:=by intro x hx; obtain ⟨y,hy,rfl⟩:=List.mem_map.1 hx; exact hs' y hy
  have hl':∀ x∈rs,x.2.length=32:=fun x hx=>(hs' x hx).len
  have hall:((rs.map (·.2)).all fun x=>decide (x.length=32))=true:=by rw [List.all_eq_true]; intro x hx; simpa using (hsl x hx).len
  cases h:zb5 g row
  · simp [zqc,h,solD]
  by_cases hl:(rs.length:Int)=g.width
  · rw [if_pos ⟨rfl,by simp [hl],hall⟩]
    obtain ⟨hk,r0,r1⟩:=zbE.1 h
    have hw:=zb2 hk
    have hdd:=ok_d hk
    have hb:((((pL rs).length:Nat):Int) != g.width)=false:=by simp [hl]
    have hrl:rs.length=g.width.toNat:=by omega
    rw [zqc,zai,zdp,h,Bool.not_true,zaA,zge,zai,zbF,hb,zaA,zac (by omega),zac (by rfl),zac (by omega),zac (by omega),zac (by simp)]
    let st:Nat→(Int×List D×(Int×Int×Int×PUnit)×List D×List D×Int×Int×PUnit)×PUnit:=fun k=>((row,pL rs,(g.l,g.d,g.c,PUnit.unit),pL (zkh g row (rs.map (·.2)) k),pL rs,((pL rs).length:Int),(k:Int),PUnit.unit),PUnit.unit)
    have hst:st 0=((row,pL rs,(g.l,g.d,g.c,PUnit.unit),List.replicate g.d.toNat (D.sl .nil []),pL rs,((pL rs).length:Int),0,PUnit.unit),PUnit.unit):=by
      simp only [st,zkh,zAP]; rfl
    rw [←hst]
    refine zcu st rs.length (by omega) ?_ ?_
    · intro again k hk'
      dsimp only [st]
      obtain ⟨x,hx⟩:∃ x,rs[k]? =some x:=⟨_,List.getElem?_eq_getElem hk'⟩
      have hxs:=hl' x (List.mem_of_getElem? hx)
      have hxe:rs[k]=x:=by rw [List.getElem?_eq_getElem hk'] at hx; exact Option.some.inj hx
      have hdi:=zin h (k:=(k:Int)) (by omega) (by omega)
      have hfl:=zgM g row (rs.map (·.2)) k
      obtain ⟨y,hy⟩:∃ y,(zkh g row (rs.map (·.2)) k)[(zch g row (k:Int)).toNat]? =some y:=⟨_,List.getElem?_eq_getElem (by omega)⟩
      have hgd:(rs.map (·.2)).getD k []=x.2:=by simp [List.getD_eq_getElem?_getD,hx]
      have hgx:(pL rs)[k]? =some (.sl x.1 (uL x.2)):=zcX hx
      have hlt:(zch g row (k:Int)).toNat < g.d.toNat:=by omega
      simp (disch:=first | omega | assumption | (simp; done) | fail) [-List.all_eq_true,hk',zas hgx,zux,hxs,hdi.1,hfl,hlt,zas (zcX hy),zoO,zag,zus,zkh]
      rw [hxe]
    · intro again
      dsimp only [st]
      obtain ⟨p0,p1,p2⟩:=znp h
      have hfl:=zgM g row (rs.map (·.2)) rs.length
      obtain ⟨y,hy⟩:∃ y,(zkh g row (rs.map (·.2)) rs.length)[(parP g row).1.toNat]? =some y:=⟨_,List.getElem?_eq_getElem (by omega)⟩
      have hrp:=zEC (n:=32) .lent (ps:=rs) (by omega) (by omega) (by omega) hl'
      have hrq:=zED (n:=32) .lent (ps:=rs) (by omega) (by omega) (by omega) hl'
      rw [zAN hsl] at hrp
      rw [zAO hsl (by simp; omega)] at hrq
      have hff:=zxs h (rs.map (·.2)) (sumP 32 (rs.map (·.2))) (sumQ 32 (rs.map (·.2))) rfl (.inl rfl)
      have hfree:=zwC (zxr g row (rs.map (·.2)) rs.length) (parP g row).1.toNat (sumP 32 (rs.map (·.2)))
      have hfree2:=zwC hfree (parP g row).2.toNat (sumQ 32 (rs.map (·.2)))
      have hlt:(parP g row).1.toNat < g.d.toNat:=by omega
      unfold zzl at hff
      rw [←hrl] at hff
      rcases p2 with ⟨p2,_⟩ | ⟨q0,q1,_⟩
      · rw [if_pos (by omega)] at hff
        have hq:¬ (0≤(parP g row).2):=by omega
        simp (disch:=first | omega | assumption | (simp; done) | fail) [-List.all_eq_true,zsT,hrp,p0,hfl,hlt,zas (zcX hy),zoO,hq,zus,zp9 hfree,solD,hff,zgL]
      · rw [if_neg (by omega)] at hff
        have hlt2:(parP g row).2.toNat < g.d.toNat:=by omega
        obtain ⟨z,hz⟩:∃ z,((zkh g row (rs.map (·.2)) rs.length).set (parP g row).1.toNat (Tag.fresh,sumP 32 (rs.map (·.2))))[(parP g row).2.toNat]? =some z:=⟨_,List.getElem?_eq_getElem (by simp [hfl]; omega)⟩
        simp (disch:=first | omega | assumption | (simp; done) | fail) [-List.all_eq_true,zsT,hrp,hrq,p0,q0,hfl,hlt,hlt2,zas (zcX hy),zas (zcX hz),zoO,zus,zp9 hfree,zp9 hfree2,solD,hff,zgL]
  · have h2:¬ (true=true∧(((rs.map (·.2)).length:Nat):Int)=g.width∧((rs.map (·.2)).all fun x=>decide (x.length=32))=true):=by rintro ⟨_,e,_⟩; simp at e; exact hl e
    rw [if_neg h2]
    simp [zqc,h,solD,zge,hl]
end Wf

namespace Wf
open Go Go.RowKit Go.Proofs
set_option linter.unusedSimpArgs false
set_option linter.unusedVariables false
set_option maxHeartbeats 4000000
theorem znS (live:List Bool):D.lentL (live.map D.bool)=live.map D.bool:=by
  induction live with
  | nil=>rfl
  | cons x l ih=>simp [ih]
section
variable {B:Ben} {d a e:Int} {x:List Int}
def Like (B B':Ben):Prop:=B'.n=B.n∧∀ e,B'.failed e=B.failed e
theorem Like.trans {A B C:Ben} (h1:Like A B) (h2:Like B C):Like A C:=⟨h2.1.trans h1.1,fun e=>(h2.2 e).trans (h1.2 e)⟩
theorem Like.up {B B':Ben} (h:Like B B') (live:List Bool) (e:Int):B'.up live e=B.up live e:=by unfold Ben.up; rw [h.1,h.2]
end
section
variable {T0 T1:Tb} {b:Nat} {idx:List Nat} {B:Ben}
end
end Wf

namespace Wf
open Go Go.RowKit Go.Proofs
set_option linter.unusedSimpArgs false
set_option linter.unusedVariables false
set_option maxHeartbeats 4000000
theorem zBn (l:List Int):(D.sl .fresh (uL l)).free=true:=by simp only [D.free,zoK]
theorem zzm {p q:List Int} {ls o:List (List Int)} (h:zmw p q ls=some o):o.length=ls.length:=by
  unfold zmw at h
  split at h
  · cases h
  split at h
  · cases h
  split at h
  · cases h; simp [zcD]
  · split at h
    · cases h; simp [zcD]
    · cases h; simp [zcD]
  · cases h; simp [zcD]
theorem zAS {g:Geo} {r:Int} {ls o:List (List Int)} (h:zst g r ls=some o):o.length=g.width.toNat:=by
  unfold zst at h
  split at h
  · rw [zzm h]; simp [zfA]
  · cases h
theorem zzn {g:Geo} {r j k:Int} (h:zb5 g r=true) (j0:0≤j) (j1:j < g.width) (k0:0≤k) (k1:k < g.width) (e:numP g r j=numP g r k):j=k:=by
  have h1:=zBe h j0 j1
  have h2:=zBe h k0 k1
  rw [e,h2] at h1
  injection h1 with h1 _
  exact zpH h j0 j1 k0 k1 h1.symm
theorem zvD {g:Geo} {n:Int} (n0:0≤n) (n1:n < g.cap):numP g (rowG g n) (zca g n)=n:=by
  have hk:=zrl n0 n1
  have hw:=zb2 hk
  have hc:=(zd7.1 hk).2.2
  rw [zws] at n1
  unfold numP rowG zca
  generalize g.c=c at*
  generalize g.width=w at*
  have hw:w=2∨w=3∨w=4∨w=5∨w=6∨w=7:=by omega
  rcases hc with rfl | rfl | rfl<;>rcases hw with rfl | rfl | rfl | rfl | rfl | rfl<;>omega
section
variable {T0 T1:Tb} {b:Nat} {idx:List Nat} {B:Ben}
theorem zCB {live:List Bool} {d a:Int} (hdn:B.down=false) (d0:0≤d) (hu:B.up live d=true) (a0:0≤a) (a1:a < 52):B.read d a=(B.cur d a,0):=by
  obtain ⟨h1,h2,_⟩:=zDF d0 hu
  rw [zt0 h1] at h2
  unfold Ben.read
  rw [if_neg (by rw [may0.2 ⟨h1,hdn⟩]; simp)]
  unfold DS.read
  rw [if_neg (by rw [zsn.2 ⟨h2,a0,a1⟩]; simp)]
  rfl
theorem zzo {live:List Bool} {d:Int} (a:Int) (hdn:B.down=true) (d0:0≤d) (hu:B.up live d=true):B.read d a=([],6):=by
  obtain ⟨h1,h2,_⟩:=zDF d0 hu
  have hm:B.may d=6:=by unfold Ben.may; rw [h1,hdn]; rfl
  unfold Ben.read
  rw [hm]; simp
def Ben.secP (B:Ben) (live:List Bool) (r:Int) (n k:Nat):List Part:=(List.range n).map fun (d:Nat)=>if d < k then (if B.up live d then (Tag.fresh,B.cur d (36+r)) else (Tag.nil,[])) else (Tag.nil,[])
theorem zAT (live:List Bool) (r:Int) (n:Nat):(B.secP live r n n).map (·.2)=B.secs live r n:=by
  unfold Ben.secP Ben.secs
  rw [List.map_map]
  apply List.map_congr_left
  intro d hd
  have:=List.mem_range.1 hd
  simp only [Function.comp_apply,if_pos this]
  split<;>rfl
@[simp] theorem zsV (live:List Bool) (r:Int) (n k:Nat):(B.secP live r n k).length=n:=by simp [Ben.secP]
theorem zzp (live:List Bool) (r:Int) {n k:Nat} (hk:k < n) (hu:B.up live k=true):(B.secP live r n k).set k (Tag.fresh,B.cur k (36+r))=B.secP live r n (k+1):=by
  apply List.ext_getElem?
  intro j
  rw [List.getElem?_set]
  unfold Ben.secP
  by_cases hj:j < n
  · by_cases hjk:k=j
    · subst hjk; simp [hj,hu]
    · rw [if_neg hjk]
      simp only [List.getElem?_map,List.getElem?_range hj,Option.map_some]
      by_cases h1:j < k
      · simp only [if_pos h1,if_pos (show j < k+1 by omega)]
      · simp only [if_neg h1,if_neg (show ¬ j < k+1 by omega)]
  · have h1:k≠j:=by omega
    rw [if_neg h1,List.getElem?_eq_none (by simp; omega),List.getElem?_eq_none (by simp; omega)]
theorem zzq (live:List Bool) (r:Int) {n k:Nat} (hk:k < n) (hu:B.up live k=false):B.secP live r n k=B.secP live r n (k+1):=by
  unfold Ben.secP
  apply List.map_congr_left
  intro j hj
  by_cases h1:j < k
  · simp only [if_pos h1,if_pos (show j < k+1 by omega)]
  · by_cases hjk:j=k
    · subst hjk; simp [hu]
    · simp only [if_neg h1,if_neg (show ¬ j < k+1 by omega)]
theorem zzr (live:List Bool) (r:Int) (n:Nat):pL (B.secP live r n 0)=List.replicate n (D.sl .nil []):=by
  unfold Ben.secP pL
  rw [List.map_map]
  apply List.ext_getElem?
  intro j
  by_cases hj:j < n
  · simp [hj,uL]
  · rw [List.getElem?_eq_none (by simp; omega),List.getElem?_eq_none (by simp; omega)]
theorem zCC (live:List Bool) (r:Int) {n k:Nat} (hk:k < n):(B.secP live r n k)[k]? =some (Tag.nil,[]):=by unfold Ben.secP; simp [hk]
theorem zl0 (h:At T0 T1 b idx B) (hw:B.w≤1000000) (tg:Tag) (live:List Bool) (g:Geo) (r:Int):
    zaL [.h kB b 0,.sl tg (live.map D.bool),.agg [.int .i64 g.l,.int .i64 g.d,.int .i64 g.c],.int .i64 r] [P0 T0 b idx B,P1 T1 idx B]=
      some (Ans.mk (.tup [.sl .own (pL (fP (B.sRead live g r).1)),.int .i64 (B.sRead live g r).2]) [] []):=by
  rw [zoy,znS]
  unfold ziI Ben.sRead
  have hck:zar [.agg [.int .i64 g.l,.int .i64 g.d,.int .i64 g.c]]=some (.int .i64 (if g.ok then 0 else 1)):=zh5 g.l g.d g.c
  cases hk:g.ok
  · have hf:zb5 g r=false:=by unfold zb5; rw [hk]; rfl
    rw [hk] at hck
    simp [hck,hf]; rfl
  rw [hk] at hck
  by_cases r0:r < 0
  · have hf:zb5 g r=false:=by unfold zb5; rw [hk]; simp; omega
    simp [hck,hf,r0]; rfl
  by_cases r1:r≥16
  · have hf:zb5 g r=false:=by unfold zb5; rw [hk]; simp; omega
    simp [hck,hf,r0,show 16≤r by omega]; rfl
  have hr:zb5 g r=true:=zbE.2 ⟨hk,by omega,by omega⟩
  have hdd:=ok_d hk
  rw [if_neg (by simp [hr])]
  have r1':¬ 16≤r:=by omega
  simp (disch:=first | omega | assumption | (simp; done) | fail) only [hck,if_true,zai,zbF,zwi,zAa,zac,List.length_replicate,Nat.zero_add,Nat.le_refl]
  let st:Nat→(Nat×List D×Int×(Int×Int×Int×PUnit)×List D×Int×Int×PUnit)×List (List D)×List (List D)×PUnit:=fun k=>
    ((b,live.map D.bool,r,(g.l,g.d,g.c,PUnit.unit),pL (B.secP live r g.d.toNat k),((g.d.toNat:Nat):Int),(k:Int),PUnit.unit),P0 T0 b idx B,P1 T1 idx B,PUnit.unit)
  have hst:st 0=((b,live.map D.bool,r,(g.l,g.d,g.c,PUnit.unit),List.replicate g.d.toNat (D.sl .nil []),((g.d.toNat:Nat):Int),0,PUnit.unit),P0 T0 b idx B,P1 T1 idx B,PUnit.unit):=by
    simp only [st,zzr]; rfl
  rw [←hst]
  refine zgc (fun x=>g.d.toNat - x.1.2.2.2.2.2.2.1.toNat) (fun _=>_) (fun x=>∃ k:Nat,k≤g.d.toNat∧(B.down=true→∀ j:Nat,j < k→B.up live j=false)∧x=st k) ?_ ⟨0,by omega,fun _ j hj=>by omega,rfl⟩ (by simp [st]; omega)
  rintro again _ ⟨k,hk',hdn,rfl⟩ hag
  dsimp only [st]
  by_cases hlt:k < g.d.toNat
  · have hup:=zDL h .lent live (d:=(k:Int)) (by omega)
    by_cases hu:B.up live (k:Int)=true
    · rw [hu] at hup
      cases hdo:B.down
      · have hrd:=zzc h hw (k:Int) (36+r)
        rw [zCB hdo (by omega) hu (by omega) (by omega)] at hrd
        have hg:=zCC (B:=B) live r hlt
        have:=hag (st (k+1)) ⟨k+1,by omega,fun e=>(by rw [hdo] at e; cases e),rfl⟩ (by simp [st]; omega)
        dsimp only [st] at this
        rw [←zzp live r hlt hu] at this
        simp (disch:=first | omega | assumption | (simp; done) | fail) [hlt,hup,hrd,zag,zsV,zas (zcX hg),zoO,zus]
        rw [show ((k+1:Nat):Int)=(k:Int)+1 by omega] at this
        simpa [hdo] using this
      · have hrd:=zzc h hw (k:Int) (36+r)
        rw [zzo (36+r) hdo (by omega) hu] at hrd
        have hany:(List.range g.d.toNat).any (fun (d:Nat)=>B.up live d)=true:=by
          rw [List.any_eq_true]; exact ⟨k,List.mem_range.2 hlt,hu⟩
        rw [hany]
        simp (disch:=first | omega | assumption | (simp; done) | fail) [hlt,hup,hrd,zag]
        rfl
    · have hu':B.up live (k:Int)=false:=by simpa using hu
      rw [hu'] at hup
      have:=hag (st (k+1)) ⟨k+1,by omega,fun e j hj=>by
        by_cases ej:j=k
        · subst ej; exact hu'
        · exact hdn e j (by omega),rfl⟩ (by simp [st]; omega)
      dsimp only [st] at this
      rw [←zzq live r hlt hu'] at this
      rw [show ((k+1:Nat):Int)=(k:Int)+1 by omega] at this
      simp (disch:=first | omega | assumption | (simp; done) | fail) [hlt,hup,zag]
      simpa using this
  · have hke:k=g.d.toNat:=by omega
    have hno:¬ (B.down=true∧(List.range g.d.toNat).any (fun (d:Nat)=>B.up live d)=true):=by
      rintro ⟨e1,e2⟩
      rw [List.any_eq_true] at e2
      obtain ⟨j,hj,hu⟩:=e2
      rw [hdn e1 j (by rw [hke]; exact List.mem_range.1 hj)] at hu; cases hu
    rw [if_neg hno]
    have htk:=zAQ g r .lent (ps:=B.secP live r g.d.toNat g.d.toNat) (by rw [zsV]; omega)
    rw [zAT] at htk
    subst hke
    simp (disch:=first | omega | assumption | (simp; done) | fail) [-List.all_eq_true,zvx,zsV,htk]
    cases zst g r (B.secs live r g.d.toNat) with
    | none=>simp [-List.all_eq_true,solD]; rfl
    | some o=>simp [-List.all_eq_true,solD,zgL]
def Ben.oneT (B:Ben) (live:List Bool) (g:Geo) (n:Int):Tag:=
  if (ofP g n).2.2=false then .nil
  else if B.up live (ofP g n).1 then .fresh
  else if (B.sRead live g (ofP g n).2.1).2≠0 then .nil
  else .fresh
theorem zxt (h:At T0 T1 b idx B) (hw:B.w≤1000000) (tg:Tag) (live:List Bool) (g:Geo) (n:Int):
    zb1 [.h kB b 0,.sl tg (live.map D.bool),.agg [.int .i64 g.l,.int .i64 g.d,.int .i64 g.c],.int .i64 n] [P0 T0 b idx B,P1 T1 idx B]=
      some (Ans.mk (.tup [.sl (B.oneT live g n) (uL (B.sOne live g n).1),.int .i64 (B.sOne live g n).2]) [] []):=by
  rw [zp5,znS]
  unfold zkd Ben.sOne Ben.oneT
  have hof:=zzj g n
  by_cases hc:0≤n∧n < g.cap
  · have ho:ofP g n=(zch g (rowG g n) (zca g n),rowG g n,true):=by unfold ofP; rw [if_pos hc]
    have hk:=zrl hc.1 hc.2
    have hrf:=zmx hc.1 hc.2
    have hr:zb5 g (rowG g n)=true:=zbE.2 ⟨hk,hrf.1,hrf.2.1⟩
    have hcol:0≤zca g n∧zca g n < g.width:=zCq hk (n / g.c)
    have hdi:=zin hr hcol.1 hcol.2
    have hw2:=zb2 hk
    rw [ho] at hof ⊢
    have hup:=zDL h .lent live (d:=zch g (rowG g n) (zca g n)) hdi.1
    have hrd:=zzc h hw (zch g (rowG g n) (zca g n)) (36+rowG g n)
    have hsr:=zl0 h hw .lent live g (rowG g n)
    dsimp only at hof ⊢
    by_cases hu:B.up live (zch g (rowG g n) (zca g n))=true
    · rw [hu] at hup
      simp (disch:=first | omega | assumption | (simp; done) | fail) [-List.all_eq_true,hof,hup,hrd,zag,hu,zBn]
    · have hu':B.up live (zch g (rowG g n) (zca g n))=false:=by simpa using hu
      rw [hu'] at hup
      by_cases he:(B.sRead live g (rowG g n)).2=0
      · have hlen:(B.sRead live g (rowG g n)).1.length=g.width.toNat:=by
          unfold Ben.sRead at he ⊢
          rw [if_neg (by simp [hr])] at he ⊢
          split
          · rename_i hx; rw [if_pos hx] at he; exact absurd he (by decide)
          · rename_i hx
            rw [if_neg hx] at he
            cases ht:zst g (rowG g n) (B.secs live (rowG g n) g.d.toNat) with
            | none=>rw [ht] at he; exact absurd he (by decide)
            | some o=>exact zAS ht
        have hnums:=zvC g (rowG g n)
        have hnd:zsq g (rowG g n)=numD g (rowG g n) g.width.toNat:=by unfold zsq; rw [if_pos hr]
        rw [hnd] at hnums
        rw [he] at hsr
        simp (disch:=first | omega | assumption | (simp; done) | fail) only [hof,zai,zmo,zdC,zer,zbF,zdp,Bool.not_true,zaA,hup,zea,hsr,zbW,zwi,hnums,zac,Nat.zero_add,Nat.le_refl,zim,hu',he,if_true,if_false,ne_eq,not_true_eq_false,Bool.false_eq_true,reduceCtorEq]
        generalize (B.sRead live g (rowG g n)).1=out at*
        let s2:Nat→(Int×List D×List D×Int×Int×PUnit)×List (List D)×List (List D)×PUnit:=fun j=>((n,pL (fP out),numD g (rowG g n) g.width.toNat,((g.width.toNat:Nat):Int),(j:Int),PUnit.unit),P0 T0 b idx B,P1 T1 idx B,PUnit.unit)
        show zb3 _ (s2 0)=_
        refine zcu s2 (zca g n).toNat (by omega) ?_ ?_
        · intro again j hj
          dsimp only [s2]
          have hne:¬ numP g (rowG g n) j=n:=by
            intro e
            have:=zzn hr (j:=(j:Int)) (k:=zca g n) (by omega) (by omega) hcol.1 hcol.2 (by rw [e,zvD hc.1 hc.2])
            omega
          have hgn:(numD g (rowG g n) g.width.toNat)[j]? =some (.int .i64 (numP g (rowG g n) j)):=zsr g (rowG g n) g.width.toNat (by omega)
          have hlt:(j:Int) < ((g.width.toNat:Nat):Int):=by omega
          have hlt2:j < g.width.toNat:=by omega
          simp (disch:=first | omega | assumption | (simp; done) | fail) [-List.all_eq_true,hlt,hlt2,zim,zas hgn,hne,zag]
        · intro again
          dsimp only [s2]
          have hgn:(numD g (rowG g n) g.width.toNat)[(zca g n).toNat]? =some (.int .i64 (numP g (rowG g n) ((zca g n).toNat:Int))):=zsr g (rowG g n) g.width.toNat (by omega)
          rw [show (((zca g n).toNat:Nat):Int)=zca g n by omega,zvD hc.1 hc.2] at hgn
          have hgo:(pL (fP out))[(zca g n).toNat]? =some (.sl .fresh (uL (out.getD (zca g n).toNat []))):=zsR (by omega)
          rw [show (((zca g n).toNat:Nat):Int)=zca g n by omega]
          have hlt:zca g n < ((g.width.toNat:Nat):Int):=by omega
          have hlt2:(zca g n).toNat < g.width.toNat:=by omega
          simp (disch:=first | omega | assumption | (simp; done) | fail) [-List.all_eq_true,hlt,hlt2,hcol.1,zim,zas hgn,zas hgo,hlen,zBn]
      · simp (disch:=first | omega | assumption | (simp; done) | fail) [-List.all_eq_true,hof,hup,hsr,hu',he]
        rfl
  · have ho:ofP g n=(0,0,false):=by unfold ofP; rw [if_neg hc]
    rw [ho] at hof ⊢
    simp [hof]
    rfl
end
end Wf

namespace Wf
open Go Go.RowKit Go.Proofs
set_option linter.unusedSimpArgs false
set_option linter.unusedVariables false
set_option maxHeartbeats 4000000
def zvE (w left:Int) (down:Bool) (hs:List D):List D:=[.int .i64 w,.int .i64 left,.bool down,.sl .own hs]
theorem zvF (m k:Nat):((List.range k).map fun j=>hD (m+j))++[hD (m+k)]=(List.range (k+1)).map fun j=>hD (m+j):=by simp [List.range_succ]
theorem zxu (l:List Nat):zdz (l.map hD)=true:=by simp only [zdz,List.all_map,List.all_eq_true]; intro i _; rfl
theorem zzs (l:List Nat):zhF 1 (l.map hD)=true:=by simp only [zhF,List.all_map,List.all_eq_true]; intro i _; rfl
theorem zqC {α:Type} (k:Nat) (a:α):List.replicate k a++[a]=List.replicate (k+1) a:=by
  rw [List.replicate_succ']
theorem zAU (T0 T1:Tb) {n:Int} (h0:1≤n) (h1:n≤8):
    zbm [.int .i64 n] [T0,T1]=some (Ans.mk (.tup [.h kB T0.length 0,.int .i64 0]) []
      [T0++[zvE 0 (-1) false ((List.range n.toNat).map fun j=>hD (T1.length+j))],T1++List.replicate n.toNat DS.new.cells]):=by
  rw [zqk]
  unfold zlC
  have d1:decide (n < 1)=false:=by simp; omega
  have d2:decide (n > 8)=false:=by simp; omega
  rw [d1,zaA,d2,zaA,zpC]
  have hn:n=(n.toNat:Int):=by omega
  let st:Nat→(Nat×Int×Int×PUnit)×List (List D)×List (List D)×PUnit:=fun k=>
    ((T0.length,n,(k:Int),PUnit.unit),T0++[zvE 0 (-1) false ((List.range k).map fun j=>hD (T1.length+j))],T1++List.replicate k DS.new.cells,PUnit.unit)
  have h00:st 0=((T0.length,n,0,PUnit.unit),T0++[[D.own0 (D.int IntKind.i64 (0:Int)),D.own0 (D.int IntKind.i64 (-1:Int)),D.own0 (D.bool false),D.own0 (D.sl Tag.nil [])]],T1,PUnit.unit):=by
    simp [st,zvE,D.own0]
  rw [←h00]
  refine zb0 st n.toNat (by omega) ?_ ?_
  · intro again k hk
    dsimp only [st]
    have hd:decide ((k:Int) < n)=true:=by simp; omega
    have hrow:(T0++[zvE 0 (-1) false ((List.range k).map fun j=>hD (T1.length+j))])[T0.length]? =some (zvE 0 (-1) false ((List.range k).map fun j=>hD (T1.length+j))):=by simp
    have hnew:=zEA (T1++List.replicate k DS.new.cells)
    have hl:(T1++List.replicate k DS.new.cells).length=T1.length+k:=by simp
    rw [hl,List.append_assoc,zqC] at hnew
    rw [hd,za5,zas hrow]
    unfold zvE at hrow ⊢
    rw [zhH,zhH,zhH,ztR,zbW,hnew,zai,zea,zrf,zea,zac (by rfl),zac (by rfl),zas hrow,zhH,zhH,zhH,ztR,zbW]
    rw [zac (by simp; omega),zac (by rfl),zac (by rfl),zpC,zB8 hrow]
    have hset:=zwh hrow (List.set [D.int .i64 0,.int .i64 (-1),.bool false,.sl .own ((List.range k).map fun j=>hD (T1.length+j))] 3 .undef)
    have hsn:=zvF T1.length k
    unfold hD at hsn
    have hH:(List.map (fun j=>hD (T1.length+j)) (List.range k))++[D.h kD (T1.length+k) 0]=(List.range (k+1)).map fun j=>hD (T1.length+j):=hsn
    dsimp only
    rw [zas hset,zac (by simp),hH,zac (by simp)]
    have e1:((List.range (k+1)).map fun j=>hD (T1.length+j))=((List.range (k+1)).map fun j=>T1.length+j).map hD:=by rw [List.map_map]; rfl
    rw [e1,zac (zxu _),zac (zzs _),zpC,zaQ,zag (by omega) (by omega),zil hset,←e1,List.set_set]
    simp [zvE]
  · intro again
    dsimp only [st]
    have hd:decide (((n.toNat:Nat):Int) < n)=false:=by simp; omega
    rw [hd,zaA]
def nIdx (T1:Tb) (n:Nat):List Nat:=(List.range n).map fun j=>T1.length+j
def nT0 (T0 T1:Tb) (n:Nat):Tb:=T0++[bRow (Ben.new n) (nIdx T1 n)]
def nT1 (T1:Tb) (n:Nat):Tb:=T1++List.replicate n DS.new.cells
theorem zCD (T1:Tb) (n:Nat):((List.range n).map fun j=>hD (T1.length+j))=(nIdx T1 n).map hD:=by unfold nIdx; rw [List.map_map]; rfl
theorem zzt (T0 T1:Tb) {n:Nat} (h8:n≤8):At (nT0 T0 T1 n) (nT1 T1 n) T0.length (nIdx T1 n) (Ben.new n):=by
  refine ⟨by simp [nT0],?_,fun i hi=>?_,by simp [nIdx,Ben.new],zrk h8⟩
  · unfold List.Nodup nIdx
    rw [List.pairwise_map]
    exact List.Pairwise.imp (fun h e=>h (by omega)) (List.nodup_range (n:=n))
  · unfold nIdx at hi
    obtain ⟨j,hj,rfl⟩:=List.mem_map.1 hi
    have:=List.mem_range.1 hj
    simp [nT1]; omega
theorem zDS (T0 T1:Tb) (n:Nat):P0 (nT0 T0 T1 n) T0.length (nIdx T1 n) (Ben.new n)=nT0 T0 T1 n:=zCo (by unfold nT0; simp)
theorem zDT (T1:Tb) (n:Nat):P1 (nT1 T1 n) (nIdx T1 n) (Ben.new n)=nT1 T1 n:=by
  unfold P1
  show putL _ _ _++[]=_
  rw [List.append_nil]
  refine ztZ fun j i c h1 h2=>?_
  have hj:j < n:=by have:=zaT h1; simpa [nIdx] using this
  have e1:i=T1.length+j:=by
    unfold nIdx at h1
    rw [List.getElem?_map,List.getElem?_range hj] at h1
    simpa using h1.symm
  have e2:c=DS.new.cells:=by
    have:(Ben.new n).ds.map DS.cells=List.replicate n DS.new.cells:=by unfold Ben.new; simp
    rw [this] at h2
    rw [List.getElem?_replicate,if_pos hj] at h2
    exact (Option.some.inj h2).symm
  subst e1 e2
  unfold nT1
  rw [List.getElem?_append_right (by omega),show T1.length+j - T1.length=j by omega,List.getElem?_replicate,if_pos hj]
theorem zDU (T0 T1:Tb) {n:Nat} (h0:1≤n) (h8:n≤8):
    zbm [.int .i64 n] [T0,T1]=some (Ans.mk (.tup [.h kB T0.length 0,.int .i64 0]) [] [P0 (nT0 T0 T1 n) T0.length (nIdx T1 n) (Ben.new n),P1 (nT1 T1 n) (nIdx T1 n) (Ben.new n)]):=by
  rw [zAU T0 T1 (by omega) (by omega),zDS,zDT,Int.toNat_natCast,zCD]
  rfl
structure Still (B:Ben):Prop where
  ok:B.Ok
  down:B.down=false
  ds:∀ s∈B.ds,s.failed=false∧s.pend=[]
theorem Still.dk {B:Ben} (h:Still B) (d:Int):(B.dk d).failed=false∧(B.dk d).pend=[]:=by
  unfold Ben.dk
  cases e:B.ds[d.toNat]? with
  | none=>exact ⟨rfl,rfl⟩
  | some s=>exact h.ds s (List.mem_of_getElem? e)
theorem Still.failed {B:Ben} (h:Still B) (d:Int):B.failed d=false:=by unfold Ben.failed; rw [(h.dk d).1,Bool.and_false]
theorem zuA {n:Nat} (h:n≤8):Still (Ben.new n):=⟨zrk h,rfl,fun s hs=>by
  unfold Ben.new at hs
  rw [(List.mem_replicate.1 hs).2]; exact ⟨rfl,rfl⟩⟩
theorem zDV (n:Nat) (d:Int):(Ben.new n).dk d=DS.new:=by
  unfold Ben.dk Ben.new
  dsimp only
  rw [List.getElem?_replicate]
  split<;>rfl
theorem zAV {a:Nat} (ha:a < 52):DS.new.base a=zdR:=by
  unfold DS.base
  show ((List.replicate 1664 (0:Int)).drop (a*32)).take 32=_
  rw [List.drop_replicate,List.take_replicate]
  unfold zdR
  congr 1
  omega
theorem zzu (n:Nat) (d:Int) {a:Int} (a0:0≤a) (a1:a < 52):(Ben.new n).cur d a=zdR:=by
  unfold Ben.cur
  rw [zDV]
  show look [] a (DS.new.base a.toNat)=_
  rw [zso,zAV (by omega)]
section
variable {B:Ben} {d a:Int} {x:List Int}
theorem zuB (h:Still B) (hx:Sec x):Still (B.damage d a x).2∧(B.damage d a x).2.n=B.n∧(B.damage d a x).2.w=B.w∧(B.damage d a x).2.left=B.left:=by
  refine ⟨⟨(ztY h.ok (.inl hx)).ok,?_,?_⟩,(ztY (d:=d) (a:=a) h.ok (.inl hx)).n,?_,?_⟩
  · unfold Ben.damage; split<;>exact h.down
  · unfold Ben.damage
    split
    · intro s hs
      rcases List.mem_or_eq_of_mem_set hs with hs | hs
      · exact h.ds s hs
      · subst hs
        unfold DS.damage
        dsimp only
        split
        · exact h.dk d
        · exact h.dk d
    · exact h.ds
  · unfold Ben.damage; split<;>rfl
  · unfold Ben.damage; split<;>rfl
theorem zxv (h:Still B) (hd:B.is d=true) (a0:0≤a) (a1:a < 52) (hx:Sec x) {e b:Int} (e0:0≤e) (b0:0≤b) (b1:b < 52):
    (B.damage d a x).1=0∧(B.damage d a x).2.cur e b=if e=d∧b=a then x else B.cur e b:=by
  have hk:=h.dk d
  have hw:(B.dk d).mayW a x=0:=zCl (zsn.2 ⟨hk.1,a0,a1⟩) hx.len
  have e1:(B.dk d).damage a x=(0,(B.dk d).setSec a.toNat x):=by unfold DS.damage; rw [hw,if_pos rfl]
  unfold Ben.damage
  rw [if_pos hd,e1]
  refine ⟨rfl,?_⟩
  unfold Ben.cur
  rw [zvg hd e0]
  by_cases he:e=d
  · subst he
    rw [if_pos rfl]
    have hp:((B.dk e).setSec a.toNat x).pend=[]:=hk.2
    unfold DS.sec
    rw [hp,hk.2,zso,zso,zvf (zxe h.ok e).1.len (by omega) hx.len b.toNat (by omega)]
    by_cases hb:b=a
    · rw [if_pos (by omega),if_pos ⟨rfl,hb⟩]
    · rw [if_neg (by omega),if_neg (fun q=>hb q.2)]
  · rw [if_neg he,if_neg (fun q=>he q.1)]
end
def Ben.dmgs (B:Ben) (a:Int) (xs:List (List Int)):Nat→Ben
  | 0=>B
  | k+1=>((B.dmgs a xs k).damage (k:Int) a (xs.getD k [])).2
def rowL (g:Geo) (l:List Int) (r:Nat):List (List Int):=secL (l.drop (min r l.length)) g.width.toNat
theorem zhc {g:Geo} (hk:g.ok=true) (l:List Int) (r:Nat):Row g (rowL g l r):=⟨by have:=zb2 hk; simp [rowL]; omega,zwB _ _⟩
def zki (gs:Nat→Geo) (l:List Int) (n:Nat):Nat→Ben
  | 0=>.new n
  | r+1=>(zki gs l n r).dmgs (36+(r:Int)) (zc1 (gs r) r (rowL (gs r) l r)) (min (gs r).d.toNat n)
structure Filld (gs:Nat→Geo) (l:List Int) (n:Nat) (R:Nat) (B:Ben):Prop where
  still:Still B
  num:B.n=n
  w:B.w=0
  left:B.left= -1
  cur:∀ d a:Int,0≤d→0≤a→a < 52→B.cur d a=if 36≤a∧a < 36+R∧d < (gs (a - 36).toNat).d∧d < n then atR (gs (a - 36).toNat) (a - 36) (rowL (gs (a - 36).toNat) l (a - 36).toNat) d else zdR
theorem zqd {g:Geo} {r:Int} {data:List (List Int)} {d:Nat} (h:(d:Int) < g.d):(zc1 g r data).getD d []=atR g r data d:=by
  rw [List.getD_eq_getElem?_getD,znq h]; rfl
theorem znT {gs:Nat→Geo} {l:List Int} {n R:Nat} {B:Ben} (h:Filld gs l n R B) (hR:R < 16) (hk:(gs R).ok=true):∀ k,k≤min (gs R).d.toNat n→
    Still (B.dmgs (36+(R:Int)) (zc1 (gs R) R (rowL (gs R) l R)) k)∧(B.dmgs (36+(R:Int)) (zc1 (gs R) R (rowL (gs R) l R)) k).n=n∧(B.dmgs (36+(R:Int)) (zc1 (gs R) R (rowL (gs R) l R)) k).w=0∧(B.dmgs (36+(R:Int)) (zc1 (gs R) R (rowL (gs R) l R)) k).left= -1∧
    ∀ d a:Int,0≤d→0≤a→a < 52→(B.dmgs (36+(R:Int)) (zc1 (gs R) R (rowL (gs R) l R)) k).cur d a=if a=36+R∧d < k then atR (gs R) R (rowL (gs R) l R) d else B.cur d a
  | 0,_=>⟨h.still,h.num,h.w,h.left,fun d a d0 a0 a1=>by rw [if_neg (by omega)]; rfl⟩
  | k+1,hk'=>by
    obtain ⟨i1,i2,i3,i4,i5⟩:=znT h hR hk k (by omega)
    have hr:zb5 (gs R) (R:Int)=true:=zbE.2 ⟨hk,by omega,by omega⟩
    have hsec:=zDE hr (zhc hk l R) (d:=(k:Int)) (by omega) (by omega)
    have hg:=zqd (g:=gs R) (r:=R) (data:=rowL (gs R) l R) (d:=k) (by omega)
    generalize hB:B.dmgs (36+(R:Int)) (zc1 (gs R) R (rowL (gs R) l R)) k=C at*
    have hC:B.dmgs (36+(R:Int)) (zc1 (gs R) R (rowL (gs R) l R)) (k+1)=(C.damage (k:Int) (36+(R:Int)) (atR (gs R) R (rowL (gs R) l R) k)).2:=by
      show ((B.dmgs (36+(R:Int)) (zc1 (gs R) R (rowL (gs R) l R)) k).damage (k:Int) (36+(R:Int)) ((zc1 (gs R) R (rowL (gs R) l R)).getD k [])).2=_
      rw [hB,hg]
    rw [hC]
    have hd:C.is (k:Int)=true:=zhK.2 ⟨by omega,by rw [i2]; omega⟩
    obtain ⟨j1,j2,j3,j4⟩:=zuB (d:=(k:Int)) (a:=36+(R:Int)) i1 hsec
    refine ⟨j1,j2.trans i2,j3.trans i3,j4.trans i4,fun d a d0 a0 a1=>?_⟩
    rw [(zxv i1 hd (by omega) (by omega) hsec d0 a0 a1).2,i5 d a d0 a0 a1]
    by_cases ha:a=36+(R:Int)
    · by_cases hdk:d=k
      · subst hdk; rw [if_pos ⟨rfl,ha⟩,if_pos ⟨ha,by omega⟩]
      · rw [if_neg (fun q=>hdk q.1)]
        by_cases hlt:d < k
        · rw [if_pos ⟨ha,hlt⟩,if_pos ⟨ha,by omega⟩]
        · rw [if_neg (fun q=>hlt q.2),if_neg (fun q=>by omega)]
    · rw [if_neg (fun q=>ha q.2),if_neg (fun q=>ha q.1),if_neg (fun q=>ha q.1)]
theorem zkj {gs:Nat→Geo} {l:List Int} {n:Nat} (n8:n≤8) (hk:∀ r,(gs r).ok=true):∀ R,R≤16→Filld gs l n R (zki gs l n R)
  | 0,_=>⟨zuA n8,by simp [zki,Ben.new,Ben.n],rfl,rfl,fun d a d0 a0 a1=>by rw [if_neg (by omega)]; exact zzu n d a0 a1⟩
  | R+1,hR=>by
    have ih:=zkj (l:=l) n8 hk R (by omega)
    obtain ⟨i1,i2,i3,i4,i5⟩:=znT ih (by omega) (hk R) (min (gs R).d.toNat n) (Nat.le_refl _)
    refine ⟨i1,i2,i3,i4,fun d a d0 a0 a1=>?_⟩
    show ((zki gs l n R).dmgs (36+(R:Int)) (zc1 (gs R) R (rowL (gs R) l R)) (min (gs R).d.toNat n)).cur d a=_
    rw [i5 d a d0 a0 a1,ih.cur d a d0 a0 a1]
    have hdd:=ok_d (hk R)
    by_cases ha:a=36+(R:Int)
    · have e:(a - 36).toNat=R:=by omega
      have e2:a - 36=(R:Int):=by omega
      rw [e,e2]
      by_cases hlt:d < (gs R).d∧d < n
      · rw [if_pos ⟨ha,by omega⟩,if_pos ⟨by omega,by omega,hlt.1,hlt.2⟩]
      · rw [if_neg (fun q=>hlt ⟨by omega,by omega⟩),if_neg (fun q=>by omega),if_neg (fun q=>hlt ⟨q.2.2.1,q.2.2.2⟩)]
    · rw [if_neg (fun q=>ha q.1)]
      by_cases hc:36≤a∧a < 36+(R:Int)∧d < (gs (a - 36).toNat).d∧d < n
      · rw [if_pos hc,if_pos ⟨hc.1,by omega,hc.2.2.1,hc.2.2.2⟩]
      · rw [if_neg hc,if_neg (fun q=>hc ⟨q.1,by omega,q.2.2.1,q.2.2.2⟩)]
end Wf

namespace Wf
open Go Go.RowKit Go.Proofs
set_option linter.unusedSimpArgs false
set_option linter.unusedVariables false
set_option maxHeartbeats 4000000
theorem zzv (l:List Int) (n:Nat):(intL l).drop n=intL (l.drop n):=by simp [intL,List.map_drop]
theorem zrB (l:List Int):zuN 1 (intL l)=true:=by simp [zuN,intL,D.cell,D.width]
theorem zuC (l:List Int) (r:Int) (r0:0≤r):cutI (min r (l.length:Int)) (l.length:Int) (intL l)=intL (l.drop (min r.toNat l.length)):=by
  unfold cutI
  have:(min r (l.length:Int)).toNat=min r.toNat l.length:=by omega
  rw [this,zzv,List.take_of_length_le (by rw [zfl]; simp; omega)]
theorem zuD (g:Geo) (hk:g.ok=true) (r:Int) (r0:0≤r) (tg:Tag) (l:List Int):
    zaS [.agg [.int .i64 g.l,.int .i64 g.d,.int .i64 g.c],.int .i64 r,.sl tg (intL l)]=some (.sl .own (pL (fP (rowL g l r.toNat)))):=by
  rw [zka,zmp]
  unfold zeR
  have hw:=zb2 hk
  have hsp:=fun tg=>zoh tg (l.drop (min r.toNat l.length)) (n:=g.width.toNat) (by omega)
  rw [show ((g.width.toNat:Nat):Int)=g.width by omega] at hsp
  have hm1:0≤min r (l.length:Int):=by omega
  have hm2:min r (l.length:Int)≤(l.length:Int):=by omega
  have hfree:=zgL (rowL g l r.toNat)
  unfold rowL at hfree ⊢
  simp (disch:=first | omega | assumption | (simp; done) | fail) [-List.all_eq_true,zfl,hm1,hm2,zrB,zge,zuC l r r0,hsp,hfree]
section
variable {T0 T1:Tb}
theorem zDW {g:Geo} (hk:g.ok=true) {n:Nat} (n0:1≤n) (n8:n≤8) (tg:Tag) (l:List Int):
    zaY [.agg [.int .i64 g.l,.int .i64 g.d,.int .i64 g.c],.int .i64 n,.sl tg (intL l)] [T0,T1]=
      some (Ans.mk (.h kB T0.length 0) [] [P0 (nT0 T0 T1 n) T0.length (nIdx T1 n) (zki (fun _=>g) l n 16),P1 (nT1 T1 n) (nIdx T1 n) (zki (fun _=>g) l n 16)]):=by
  rw [ziB,zmp]
  unfold zd1
  have hat0:=zzt T0 T1 n8
  have hnew:=zDU T0 T1 n0 n8
  generalize nT0 T0 T1 n=U0 at*
  generalize nT1 T1 n=U1 at*
  generalize nIdx T1 n=idx at*
  have hw:=zb2 hk
  have hdd:=ok_d hk
  have hF:=fun R hR=>zkj (gs:=fun _=>g) (l:=l) n8 (fun _=>hk) R hR
  have hat:∀ B:Ben,B.Ok→B.n=n→At U0 U1 T0.length idx B:=fun B hB hn=>⟨hat0.b,hat0.nd,hat0.lt,by rw [hat0.len]; unfold Ben.n at hn; simp [Ben.new]; omega,hB⟩
  simp (disch:=first | omega | assumption | (simp; done) | fail) only [hnew,zai,zea,zrf,zmo,zuz,zbF,zwi,zB7,zaA,show zg1 (D.h kB T0.length 0)=true from rfl,zac]
  let st:Nat→(Int×List D×(Int×Int×Int×PUnit)×D×Int×PUnit)×List (List D)×List (List D)×PUnit:=fun r=>(((n:Int),intL l,(g.l,g.d,g.c,PUnit.unit),.h kB T0.length 0,(r:Int),PUnit.unit),P0 U0 T0.length idx (zki (fun _=>g) l n r),P1 U1 idx (zki (fun _=>g) l n r),PUnit.unit)
  show zb3 _ (st 0)=_
  refine zcu st 16 (by omega) ?_ ?_
  · intro again r hr
    dsimp only [st]
    have hfine:zb5 g (r:Int)=true:=zbE.2 ⟨hk,by omega,by omega⟩
    have hm1:0≤min (r:Int) (l.length:Int):=by omega
    have hm2:min (r:Int) (l.length:Int)≤(l.length:Int):=by omega
    have hsp:=fun tg=>zoh tg (l.drop (min r l.length)) (n:=g.width.toNat) (by omega)
    rw [show ((g.width.toNat:Nat):Int)=g.width by omega] at hsp
    have hc:=zuC l (r:Int) (by omega)
    rw [Int.toNat_natCast] at hc
    have hfill:=zAR g (r:Int) .lent (ps:=fP (rowL g l r)) (by simp [rowL]; omega) (by intro x hx; obtain ⟨y,hy,rfl⟩:=List.mem_map.1 hx; exact zwB _ _ y hy)
    rw [zwv,zy3 hfine (zhc hk l r)] at hfill
    have hrl:=zrm g (r:Int) (rowL g l r)
    have hr16:(r:Int) < 16:=by omega
    unfold rowL at hfill
    simp (disch:=first | omega | assumption | (simp; done) | fail) only [zDp,zaQ,zfl,zac,zrB,zge,zai,zbF,hc,hsp,zbW,zc0,Nat.zero_add,Nat.le_refl,hfill,solD,zmo,zuz,zdp]
    have hxs:secL (l.drop (min r l.length)) g.width.toNat=rowL g l r:=rfl
    rw [hxs]
    have hFr:=hF r (by omega)
    have hdm:=fun k hk'=>znT (gs:=fun _=>g) hFr hr hk k hk'
    have hnx:zki (fun _=>g) l n (r+1)=(zki (fun _=>g) l n r).dmgs (36+(r:Int)) (zc1 g r (rowL g l r)) (min g.d.toNat n):=rfl
    rw [hnx]
    generalize zki (fun _=>g) l n r=B at*
    have h0:∀ k,k≤min g.d.toNat n→P0 U0 T0.length idx (B.dmgs (36+(r:Int)) (zc1 g r (rowL g l r)) k)=P0 U0 T0.length idx B:=by
      intro k hk'
      induction k with
      | zero=>rfl
      | succ k ih=>
        rw [←ih (by omega)]
        show P0 U0 T0.length idx ((B.dmgs (36+(r:Int)) (zc1 g r (rowL g l r)) k).damage _ _ _).2=_
        unfold Ben.damage
        split<;>rfl
    let s2:Nat→(Int×List D×(Int×Int×Int×PUnit)×D×Int×List D×Bool×Int×PUnit)×List (List D)×List (List D)×PUnit:=fun k=>
      (((n:Int),intL l,(g.l,g.d,g.c,PUnit.unit),.h kB T0.length 0,(r:Int),pL (fP (zc1 g r (rowL g l r))),true,(k:Int),PUnit.unit),P0 U0 T0.length idx B,P1 U1 idx (B.dmgs (36+(r:Int)) (zc1 g r (rowL g l r)) k),PUnit.unit)
    show zb3 _ (s2 0)=_
    refine zcu s2 (min g.d.toNat n) (by omega) ?_ ?_
    · intro again2 k hk'
      dsimp only [s2]
      obtain ⟨i1,i2,i3,i4,i5⟩:=hdm k (by omega)
      have hA:=hat _ i1.ok i2
      have hg:(pL (fP (zc1 g r (rowL g l r))))[k]? =some (.sl .fresh (uL (atR g r (rowL g l r) k))):=zcX (zww (znq (by omega)))
      have hb:=zAH hA (by omega) (k:Int) (a:=36+(r:Int)) (by intro w hw; rw [(i1.dk _).2] at hw; cases hw) .fresh (atR g r (rowL g l r) k)
      rw [h0 k (by omega)] at hb
      have hgd:(zc1 g r (rowL g l r)).getD k []=atR g r (rowL g l r) k:=zqd (by omega)
      have h1:(k:Int) < ((g.d.toNat:Nat):Int):=by omega
      have h2:(k:Int) < (n:Int):=by omega
      have h3:k < g.d.toNat:=by omega
      simp (disch:=first | omega | assumption | (simp; done) | fail) [hrl,h1,h2,h3,zas hg,hb,zag]
      rw [←hgd]; rfl
    · intro again2
      dsimp only [s2]
      rw [h0 _ (Nat.le_refl _)]
      by_cases h1:min g.d.toNat n < g.d.toNat
      · have h2:¬ ((min g.d.toNat n:Nat):Int) < (n:Int):=by omega
        have h1':((min g.d.toNat n:Nat):Int) < ((g.d.toNat:Nat):Int):=by omega
        simp (disch:=first | omega | assumption | (simp; done) | fail) only [za5,hrl,zwu,zBl,zac,Nat.zero_add,Nat.le_refl,zDp,zAa,ztT]
        rw [zag (by omega) (by omega)]; rfl
      · have h1':¬ ((min g.d.toNat n:Nat):Int) < ((g.d.toNat:Nat):Int):=by omega
        simp (disch:=first | omega | assumption | (simp; done) | fail) only [za5,hrl,zwu,zBl,zac,Nat.zero_add,Nat.le_refl,zAa,ztT]
        rw [zag (by omega) (by omega)]; rfl
  · intro again
    dsimp only [st]
    simp (disch:=first | omega | assumption | (simp; done) | fail) only [zAa,show (D.h kB T0.length 0).free=true from rfl,zac]
end
end Wf

namespace Wf
open Go Go.RowKit Go.Proofs
set_option linter.unusedSimpArgs false
set_option linter.unusedVariables false
set_option maxHeartbeats 4000000
section
variable {B:Ben} {d a:Int}
theorem zAW (hd:B.is d=true) {e b:Int} (e0:0≤e) (hne:e≠d):(B.fail d).2.cur e b=B.cur e b:=by
  unfold Ben.fail
  rw [if_pos hd]
  unfold Ben.cur
  rw [zvg hd e0,if_neg hne]
theorem zvG (hd:B.is d=true) {e:Int} (he:B.is e=true):(B.fail d).2.failed e=(decide (e=d) || B.failed e):=by
  unfold Ben.fail
  rw [if_pos hd]
  unfold Ben.failed
  rw [zyY,he,zvg hd (zhK.1 he).1]
  by_cases h:e=d
  · subst h; rw [if_pos rfl,show DS.dead.failed=true from rfl]; simp
  · rw [if_neg h]; simp [h]
theorem zzw (hd:B.is d=true):(B.fail d).1=0∧(B.fail d).2.n=B.n∧(B.fail d).2.down=B.down∧(B.fail d).2.left=B.left∧(B.fail d).2.w=B.w:=by
  unfold Ben.fail
  rw [if_pos hd]
  exact ⟨rfl,by simp,rfl,rfl,rfl⟩
end
theorem zAX {n:Nat} {d:Int} (d0:0≤d):((List.replicate n true)[d.toNat]?).getD false=decide (d < n):=by
  rw [List.getElem?_replicate]
  by_cases h:d < n
  · rw [if_pos (by omega)]; simp [h]
  · rw [if_neg (by omega)]; simp [h]
theorem zBo {B:Ben} {n:Nat} (hn:B.n=n) {d:Int} (d0:0≤d):B.up (List.replicate n true) d=(decide (d < n) && !B.failed d):=by
  unfold Ben.up
  rw [zAX d0,hn]
  cases decide (d < (n:Int))<;>simp
theorem zwE (f:Nat→Int) {n:Nat}:sumK f 32 (List.replicate n zdR) n=zdR:=by
  have hs:∀ l∈List.replicate n zdR,l.length=32:=by intro l hl; rw [(List.mem_replicate.1 hl).2]; exact zmv.len
  have hl:(sumK f 32 (List.replicate n zdR) n).length=32:=zkx hs (by simp)
  refine zyJ (by rw [hl,zmv.len]) fun i hi=>?_
  rw [hl] at hi
  rw [zrh hs hi (by simp),zjA]
  have:∀ k,k≤n→xsum (fun j=>mul8 (getB ((List.replicate n zdR).getD j []) i) (f j)) k=0:=by
    intro k
    induction k with
    | zero=>intro _; rfl
    | succ k ih=>
      intro hk
      have e:(List.replicate n zdR).getD k []=zdR:=by rw [List.getD_eq_getElem?_getD,List.getElem?_replicate,if_pos (by omega)]; rfl
      show xor8 (xsum _ k) (mul8 (getB ((List.replicate n zdR).getD k []) i) (f k))=0
      rw [ih (by omega),e,zjA,zmu]; rfl
  exact this n (Nat.le_refl _)
def ziL (g:Geo):List (List Int):=List.replicate g.width.toNat zdR
theorem zAY {g:Geo} (hk:g.ok=true):Row g (ziL g):=⟨by have:=zb2 hk; simp [ziL]; omega,fun x hx=>by rw [(List.mem_replicate.1 hx).2]; exact zmv⟩
theorem zCE {g:Geo} {r d:Int} (hr:zb5 g r=true) (d0:0≤d) (d1:d < g.d):atR g r (ziL g) d=zdR:=by
  unfold atR
  split
  · unfold sumP ziL; rw [List.length_replicate]; exact zwE _
  · rename_i h1
    split
    · unfold sumQ ziL; rw [List.length_replicate]; exact zwE _
    · rename_i h2
      obtain ⟨c0,c1,_⟩:=zkA hr d0 d1 h1 h2
      unfold ziL
      rw [List.getD_eq_getElem?_getD,List.getElem?_replicate,if_pos (by omega)]; rfl
theorem zAZ {g:Geo} {r:Int} {n:Nat} (hr:zb5 g r=true) (hn:n=g.d.toNat):(Ben.new n).sRead (List.replicate n true) g r=(ziL g,0):=by
  obtain ⟨hk,r0,r1⟩:=zbE.1 hr
  have hdd:=ok_d hk
  have hl:=zd7.1 hk
  have h8:n≤8:=by omega
  have hup:∀ d:Int,0≤d→d < g.d→(Ben.new n).up (List.replicate n true) d=true:=by
    intro d d0 d1
    rw [zBo (by simp [Ben.new,Ben.n]) d0,(zuA h8).failed]
    simp; omega
  rw [zoL hr (zAY hk) rfl fun d d0 d1 _=>by rw [zzu n d (by omega) (by omega),zCE hr d0 d1]]
  have:(Ben.new n).lostN (List.replicate n true) g=0:=by
    unfold Ben.lostN
    rw [List.countP_eq_zero]
    intro d hd
    have:=List.mem_range.1 hd
    rw [hup d (by omega) (by omega)]; simp
  rw [this,if_pos (by omega)]
theorem zCF:(List.replicate 32 (D.int IntKind.u8 0))=uL zdR:=zoa 32 0
theorem zsW:zaH []=some (.bool true):=by
  have e:=zjh
  rw [e,zac (by rfl)]
  unfold zen
  have hnew:=zDU [] [] (n:=3) (by omega) (by omega)
  have hat:=zzt [] [] (n:=3) (by omega)
  generalize nT0 [] [] 3=U at*
  generalize nT1 [] 3=V at*
  generalize nIdx [] 3=idx at*
  let g:Geo:=⟨5,3,1⟩
  have hr:zb5 g 4=true:=by decide
  have hrd:=zl0 hat (by simp [Ben.new]) .full [true,true,true] g 4
  have hx:(Ben.new 3).sRead [true,true,true] g 4=(ziL g,0):=zAZ (n:=3) hr (by decide)
  rw [hx] at hrd
  have hz:ziL g=[zdR,zdR]:=rfl
  rw [hz] at hrd
  have hrd':zaL [.h kB 0 0,.sl .full [.bool true,.bool true,.bool true],.agg [.int .i64 5,.int .i64 3,.int .i64 1],.int .i64 4] [P0 U 0 idx (Ben.new 3),P1 V idx (Ben.new 3)]=some (Ans.mk (.tup [.sl .own (pL (fP [zdR,zdR])),.int .i64 0]) [] []):=hrd
  have hp:pL (fP [zdR,zdR])=[.sl .fresh (uL zdR),.sl .fresh (uL zdR)]:=rfl
  rw [hp] at hrd'
  have hs:=zp8 .fresh .lent zdR zdR (by decide)
  have hnew':zbm [.int .i64 3] [[],[]]=some (Ans.mk (.tup [.h kB 0 0,.int .i64 0]) [] [P0 U 0 idx (Ben.new 3),P1 V idx (Ben.new 3)]):=hnew
  have hz32:uL zdR=List.replicate 32 (D.int IntKind.u8 0):=zCF.symm
  rw [hz32] at hs hrd'
  simp only [List.replicate] at hs hrd'
  simp [hnew',hrd',zg1,hs]
end Wf

namespace Wf
open Go Go.RowKit Go.Proofs
set_option linter.unusedSimpArgs false
set_option linter.unusedVariables false
set_option maxHeartbeats 4000000
theorem zxw (l:List Bool):(l.map D.bool).all D.free=true:=by rw [List.all_map,List.all_eq_true]; intro b _; rfl
theorem zxx {d k:Nat} (hk:k < d):((List.range d).map fun i=>D.bool (decide (i < k))).set k (.bool true)=(List.range d).map fun i=>D.bool (decide (i < k+1)):=by
  apply List.ext_getElem?
  intro j
  rw [List.getElem?_set]
  by_cases hj:j < d
  · by_cases hjk:k=j
    · subst hjk; simp [hj]
    · rw [if_neg hjk]
      simp only [List.getElem?_map,List.getElem?_range hj,Option.map_some,Option.some.injEq,D.bool.injEq,decide_eq_decide]
      omega
  · have h1:k≠j:=by omega
    rw [if_neg h1,List.getElem?_eq_none (by simp; omega),List.getElem?_eq_none (by simp; omega)]
theorem zzx (tg tg':Tag) {ps qs:List Part} (he:ps.map (·.2)=qs.map (·.2)) (hn:ps.length < 100000) (hl:∀ x∈ps,x.2.length < 1000000000):
    za9 [.sl tg (pL ps),.sl tg' (pL qs)]=some (.bool true):=by
  rw [zkc,zdh,zdh]
  have hm:(ps.map fun x=>(zb7 x.1 x.2,x.2)).map (·.2)=ps.map (·.2):=by rw [List.map_map]; rfl
  have hm':(qs.map fun x=>(zb7 x.1 x.2,x.2)).map (·.2)=qs.map (·.2):=by rw [List.map_map]; rfl
  have hlen:(ps.map fun x=>(zb7 x.1 x.2,x.2)).length=ps.length:=by simp
  have hl':∀ x∈(ps.map fun x=>(zb7 x.1 x.2,x.2)),x.2.length < 1000000000:=by intro x hx; obtain ⟨y,hy,rfl⟩:=List.mem_map.1 hx; exact hl y hy
  rw [←hm,←hm'] at he
  rw [←hlen] at hn
  generalize (ps.map fun x=>(zb7 x.1 x.2,x.2))=xs at*
  generalize (qs.map fun x=>(zb7 x.1 x.2,x.2))=ys at*
  unfold zeS
  have hll:xs.length=ys.length:=by have:=congrArg List.length he; simpa using this
  let st:Nat→(List D×List D×Int×Int×PUnit)×PUnit:=fun k=>((pL xs,pL ys,(ys.length:Int),(k:Int),PUnit.unit),PUnit.unit)
  simp (disch:=first | omega | assumption | (simp; done) | fail) only [zwu,hll,zwi]
  show zb3 _ (st 0)=_
  refine zcu st ys.length (by omega) ?_ ?_
  · intro again k hk
    dsimp only [st]
    obtain ⟨x,hx⟩:∃ x,xs[k]? =some x:=⟨_,List.getElem?_eq_getElem (by omega)⟩
    obtain ⟨y,hy⟩:∃ y,ys[k]? =some y:=⟨_,List.getElem?_eq_getElem hk⟩
    have hxy:x.2=y.2:=by
      have:=congrArg (fun l=>l[k]?) he
      simp only [List.getElem?_map,hx,hy] at this
      simpa using this
    have hs:=zp8 x.1 y.1 x.2 x.2 (hl' x (List.mem_of_getElem? hx))
    simp (disch:=first | omega | assumption | (simp; done) | fail) [hk,zas (zcX hx),zas (zcX hy),←hxy,hs,zag]
  · intro again
    dsimp only [st]
    simp
theorem zxy (tg tg':Tag) {ls:List (List Int)} (hn:ls.length < 100000) (hl:∀ x∈ls,x.length < 1000000000):za9 [.sl tg (pL (fP ls)),.sl tg' (pL (fP ls))]=some (.bool true):=
  zzx tg tg' rfl (by simpa using hn) (by intro x hx; obtain ⟨y,hy,rfl⟩:=List.mem_map.1 hx; exact hl y hy)
end Wf

namespace Wf
open Go Go.RowKit
universe u
def idf {α:Sort u} (a:α):α:=a
@[simp] theorem zc9 {α:Sort u} (a:α):idf a=a:=congrFun (funext fun _=>rfl) a
section
variable {R α β:Type}
@[congr high] theorem zEe {b b':Bool} {x y:Option R} (h:idf b=b'):brK b x y=brK b' x y:=by rw [zc9] at h; rw [h]
@[congr high] theorem zCY {x x':Option α} {f:α→Option R} (h:idf x=x'):zap x f=zap x' f:=by rw [zc9] at h; rw [h]
@[congr high] theorem zEf {c c':Prop} [d:Decidable c] [d':Decidable c'] {x:Option R} (h:idf c=c'):sif c x=sif c' x:=by rw [zc9] at h; subst h; congr
@[congr high] theorem zDX {n n':Int} {f:Int→Option R} (h:idf n=n'):letN n f=letN n' f:=by rw [zc9] at h; rw [h]
@[congr high] theorem zDY {l l':List α} {i i':Nat} {f:α→Option R} (h:idf l=l') (h':idf i=i'):getK l i f=getK l' i' f:=by rw [zc9] at h h'; rw [h,h']
@[congr high] theorem zEg {k:IntKind} {d d':D} {f:Int→Option R} (h:idf d=d'):asI k d f=asI k d' f:=by rw [zc9] at h; rw [h]
@[congr high] theorem zEh {d d':D} {f:Bool→Option R} (h:idf d=d'):asB d f=asB d' f:=by rw [zc9] at h; rw [h]
@[congr high] theorem zEi {d d':D} {f:ByteArray→Option R} (h:idf d=d'):asS d f=asS d' f:=by rw [zc9] at h; rw [h]
@[congr high] theorem zDZ {d d':D} {f:Tag→List D→Option R} (h:idf d=d'):asSl d f=asSl d' f:=by rw [zc9] at h; rw [h]
@[congr high] theorem zCZ {d d':D} {f:List D→Option R} (h:idf d=d'):zbl d f=zbl d' f:=by rw [zc9] at h; rw [h]
@[congr high] theorem zCG {d d':D} {f:List D→Option R} (h:idf d=d'):zk6 d f=zk6 d' f:=by rw [zc9] at h; rw [h]
@[congr high] theorem zC0 {d d':D} {f:List D→Option R} (h:idf d=d'):asAgg d f=asAgg d' f:=by rw [zc9] at h; rw [h]
@[congr high] theorem zC1 {d d':D} {f:List D→Option R} (h:idf d=d'):zdP d f=zdP d' f:=by rw [zc9] at h; rw [h]
@[congr high] theorem zD0 {d d':D} {f:D→Option R} (h:idf d=d'):asAt d f=asAt d' f:=by rw [zc9] at h; rw [h]
@[congr high] theorem zC2 {d d':List D} {f:D→Option R} (h:idf d=d'):zyh d f=zyh d' f:=by rw [zc9] at h; rw [h]
@[congr high] theorem zEj {k:Nat} {d d':D} {f:Nat→Option R} (h:idf d=d'):asH k d f=asH k d' f:=by rw [zc9] at h; rw [h]
@[congr high] theorem zC3 {d d':D} {f:Bool→Option R} (h:idf d=d'):znc d f=znc d' f:=by rw [zc9] at h; rw [h]
@[congr high] theorem zCH {d d':D} {f:Bool→Option R} (h:idf d=d'):zpj d f=zpj d' f:=by rw [zc9] at h; rw [h]
@[congr high] theorem zCI {kk:MK} {d d':D} {f:List (Int×D)→Option R} (h:idf d=d'):zg0 kk d f=zg0 kk d' f:=by rw [zc9] at h; rw [h]
@[congr high] theorem zC4 {kk:MK} {d d':D} {f:List (Int×D)→Option R} (h:idf d=d'):zpk kk d f=zpk kk d' f:=by rw [zc9] at h; rw [h]
@[congr high] theorem zD1 {T T':Tb} {f:Tb→Option R} (h:idf T=T'):letT T f=letT T' f:=by rw [zc9] at h; rw [h]
@[congr high] theorem zC5 {l l':List α} {f:α→List α→Option R} (h:idf l=l'):zhD l f=zhD l' f:=by rw [zc9] at h; rw [h]
@[congr high] theorem zD2 {l l':List α} {x:Option R} (h:idf l=l'):nilK l x=nilK l' x:=by rw [zc9] at h; rw [h]
@[congr high] theorem zA0 {ls:List Lf} {d d':List D} {f:LfT ls→Option R} (h:idf d=d'):zay ls d f=zay ls d' f:=by rw [zc9] at h; rw [h]
@[congr high] theorem zC6 {B:(α→Option R)→α→Option R} {a a':α} (h:idf a=a'):zb3 B a=zb3 B a':=by rw [zc9] at h; rw [h]
end
@[simp] theorem zEk (k i:Nat):zg1 (.h k i 0)=true:=rfl
@[simp] theorem zEN (k i:Nat):D.free (.h k i 0)=true:=rfl
@[simp] theorem zBp {R:Type} (a b:D) (f:LfT [.any,.any]→Option R):zay [.any,.any] [a,b] f=f (a,b,()):=by rw [zdC,zdC,zer]
@[simp] theorem zEl {β:Type} {l:List β} {n:Nat} (h:l.length=n):cut 0 n l=l:=by subst h; exact zc0 l
end Wf

namespace Wf
open Go Go.RowKit Go.Proofs
set_option linter.unusedSimpArgs false
set_option linter.unusedVariables false
set_option maxHeartbeats 4000000
structure Run (U V:Tb) (b:Nat) (idx:List Nat) (B:Ben) (n:Nat) (K:Int):Prop where
  at':At U V b idx B
  num:B.n=n
  down:B.down=false
  left:B.left= -1
  w:B.w≤K
theorem Run.mono {U V:Tb} {b:Nat} {idx:List Nat} {B:Ben} {n:Nat} {K L:Int} (h:Run U V b idx B n K) (hk:K≤L):Run U V b idx B n L:=⟨h.at',h.num,h.down,h.left,by have:=h.w; omega⟩
theorem zxz (T0 T1:Tb) {g:Geo} (hk:g.ok=true) {n:Nat} (n0:1≤n) (n8:n≤8) (tg:Tag) (l:List Int):∃ U V idx B,
    zaY [.agg [.int .i64 g.l,.int .i64 g.d,.int .i64 g.c],.int .i64 n,.sl tg (intL l)] [T0,T1]=some (Ans.mk (.h kB T0.length 0) [] [P0 U T0.length idx B,P1 V idx B])∧
    Run U V T0.length idx B n 0∧Still B∧B.w=0∧(∀ d s:Int,0≤d→d < g.d→d < n→0≤s→s < 16→B.cur d (36+s)=atR g s (rowL g l s.toNat) d)∧(∀ d a:Int,0≤d→0≤a→a < 36∨g.d≤d→a < 52→B.cur d a=zdR):=by
  have hF:=zkj (gs:=fun _=>g) (l:=l) n8 (fun _=>hk) 16 (by omega)
  have hat0:=zzt T0 T1 n8
  refine ⟨_,_,_,_,zDW hk n0 n8 tg l,⟨⟨hat0.b,hat0.nd,hat0.lt,?_,hF.still.ok⟩,hF.num,hF.still.down,hF.left,by rw [hF.w]; omega⟩,hF.still,hF.w,fun d s d0 d1 d2 s0 s1=>?_,fun d a d0 a0 ha a1=>?_⟩
  · have:=hF.num; unfold Ben.n at this; rw [hat0.len]; simp [Ben.new]; omega
  · rw [hF.cur d (36+s) d0 (by omega) (by omega),show (36+s - 36)=s by omega,if_pos ⟨by omega,by omega,d1,d2⟩]
  · rw [hF.cur d a d0 a0 a1,if_neg (fun q=>by omega)]
section
variable {U V:Tb} {b:Nat} {idx:List Nat} {B:Ben} {n:Nat} {K:Int}
theorem Run.up (h:Run U V b idx B n K) {d:Int} (d0:0≤d):B.up (List.replicate n true) d=(decide (d < n) && !B.failed d):=zBo h.num d0
theorem Run.is (h:Run U V b idx B n K) {d:Int} (d0:0≤d) (d1:d < n):B.is d=true:=zhK.2 ⟨d0,by rw [h.num]; exact d1⟩
theorem Run.fail (h:Run U V b idx B n K) {d:Int} (d0:0≤d) (d1:d < n):∃ B1,
    za6 [.h kB b 0,.int .i64 d] [P0 U b idx B,P1 V idx B]=some (Ans.mk (.int .i64 0) [] [P1 V idx B1])∧P0 U b idx B=P0 U b idx B1∧
    Run U V b idx B1 n K∧(∀ e:Int,0≤e→e < n→B1.failed e=(decide (e=d) || B.failed e))∧B1=(B.fail d).2∧(∀ e a:Int,0≤e→e≠d→B1.cur e a=B.cur e a):=by
  have hd:=h.is d0 d1
  obtain ⟨f1,f2,f3,f4,f5⟩:=zzw hd
  have hf:=zDM h.at' d
  rw [f1] at hf
  have hp:P0 U b idx B=P0 U b idx (B.fail d).2:=by unfold Ben.fail; rw [if_pos hd]; rfl
  have hnx:=zCn (d:=d) h.at'.ok
  refine ⟨(B.fail d).2,hf,hp,⟨h.at'.nx hnx,f2.trans h.num,f3.trans h.down,f4.trans h.left,by rw [f5]; exact h.w⟩,fun e e0 e1=>zvG hd (h.is e0 e1),rfl,fun e a e0 hne=>zAW hd e0 hne⟩
theorem Run.read (h:Run U V b idx B n K) (hK:K≤900000) (tg:Tag) (live:List Bool) (g:Geo) (r:Int):
    zaL [.h kB b 0,.sl tg (live.map D.bool),.agg [.int .i64 g.l,.int .i64 g.d,.int .i64 g.c],.int .i64 r] [P0 U b idx B,P1 V idx B]=some (Ans.mk (.tup [.sl .own (pL (fP (B.sRead live g r).1)),.int .i64 (B.sRead live g r).2]) [] []):=
  zl0 h.at' (by have:=h.w; omega) tg live g r
end
end Wf

namespace Wf
open Go Go.RowKit Go.Proofs
set_option linter.unusedSimpArgs false
set_option linter.unusedVariables false
set_option maxHeartbeats 4000000
@[simp ↓] theorem zwF {R α:Type} (g:α→Option R) (f:(α→Option R)→Option R):jn g f=f g:=rfl
theorem zsX {R α:Type} {g:α→Option R} {f:(α→Option R)→Option R} {r:Option R} (I:α→Prop) (hg:∀ a,I a→g a=r) (hf:∀ j,(∀ a,I a→j a=r)→f j=r):jn g f=r:=hf g hg
def zgS (B:Ben) (live:List Bool) (k:Nat):List (Int×D):=((List.range k).filter fun (d:Nat)=> !B.up live d).map fun (d:Nat)=>((d:Int),D.bool true)
theorem zrC (B:Ben) (live:List Bool) (k:Nat) (d:Nat):zew d (zgS B live k)=if d < k∧B.up live d=false then some (.bool true) else none:=by
  induction k with
  | zero=>rw [if_neg (by omega)]; rfl
  | succ k ih=>
    unfold zgS
    rw [List.range_succ,List.filter_append,List.map_append]
    by_cases hu:B.up live (k:Int)=true
    · have:List.filter (fun (d:Nat)=> !B.up live d) [k]=[]:=by rw [List.filter_cons_of_neg (by simp [hu])]; rfl
      rw [this,List.map_nil,List.append_nil]
      show zew d (zgS B live k)=_
      rw [ih]
      by_cases hd:d=k
      · subst hd; rw [if_neg (by omega),if_neg (by simp [hu])]
      · by_cases hc:d < k∧B.up live d=false
        · rw [if_pos hc,if_pos ⟨by omega,hc.2⟩]
        · rw [if_neg hc,if_neg (fun q=>hc ⟨by omega,q.2⟩)]
    · have hu':B.up live (k:Int)=false:=by simpa using hu
      have:List.filter (fun (d:Nat)=> !B.up live d) [k]=[k]:=by rw [List.filter_cons_of_pos (by simp [hu'])]; rfl
      rw [this]
      show zew d (zgS B live k++[((k:Int),D.bool true)])=_
      rw [zt7,ih]
      by_cases hd:d=k
      · subst hd
        rw [if_neg (show ¬ (d < d∧B.up live d=false) by omega)]
        simp [hu']
      · by_cases hc:d < k∧B.up live d=false
        · rw [if_pos hc,if_pos (show d < k+1∧B.up live d=false from ⟨by omega,hc.2⟩)]; rfl
        · rw [if_neg hc,if_neg (show ¬ (d < k+1∧B.up live d=false) from fun q=>hc ⟨by omega,q.2⟩)]
          simp; omega
theorem zxA (B:Ben) (live:List Bool) (k:Nat):zgS B live (k+1)=if B.up live k=true then zgS B live k else setD (k:Int) (.bool true) (zgS B live k):=by
  have hf:=zrC B live k k
  rw [if_neg (by omega)] at hf
  by_cases hu:B.up live (k:Int)=true
  · rw [if_pos hu]
    unfold zgS
    rw [List.range_succ,List.filter_append,List.map_append,List.filter_cons_of_neg (by simp [hu])]
    simp
  · rw [if_neg hu,zAo hf]
    have hu':B.up live (k:Int)=false:=by simpa using hu
    unfold zgS
    rw [List.range_succ,List.filter_append,List.map_append,List.filter_cons_of_pos (by simp [hu'])]
    simp
theorem zxB (B:Ben) (live:List Bool) (k:Nat):D.freeE (zgS B live k)=true:=by
  unfold zgS
  generalize (List.range k).filter _=l
  induction l with
  | nil=>rfl
  | cons d l ih=>exact (Bool.and_eq_true _ _).mpr ⟨by simp [D.freeP,D.free],ih⟩
section
variable {T0 T1:Tb} {b:Nat} {idx:List Nat} {B:Ben}
theorem zCJ (h:At T0 T1 b idx B) (tg:Tag) (live:List Bool) {g:Geo} (hk:g.ok=true):
    zbi [.h kB b 0,.sl tg (live.map D.bool),.agg [.int .i64 g.l,.int .i64 g.d,.int .i64 g.c]] [P0 T0 b idx B,P1 T1 idx B]=some (Ans.mk (.mp .own (.int .i64) (zgS B live g.d.toNat)) [] []):=by
  rw [zjV,znS]
  unfold zeP
  have hdd:=ok_d hk
  let st:Nat→(Nat×List D×(Int×Int×Int×PUnit)×List (Int×D)×Int×PUnit)×List (List D)×List (List D)×PUnit:=fun k=>((b,live.map D.bool,(g.l,g.d,g.c,PUnit.unit),zgS B live k,(k:Int),PUnit.unit),P0 T0 b idx B,P1 T1 idx B,PUnit.unit)
  show zb3 _ (st 0)=_
  refine zcu st g.d.toNat (by omega) ?_ ?_
  · intro again k hk'
    dsimp only [st]
    have hd:(k:Int) < g.d:=by omega
    have hs:=zxA B live k
    have hfa:=zwt h (k:Int)
    have hbl:=zzb h
    rw [hs]
    have hup:B.up live (k:Int)=(decide ((k:Int) < B.n) && ((live[k]?).getD false && !B.failed k)):=rfl
    by_cases h1:k < live.length
    · have e:live[k]? =some (live[k]):=List.getElem?_eq_getElem h1
      have e':(live.map D.bool)[k]? =some (.bool (live[k])):=by simp [e]
      have h1':¬ (live.length:Int)≤(k:Int):=by omega
      cases hv:live[k]
      · rw [hv] at e e'
        rw [if_neg (by rw [hup,e]; simp)]
        simp (disch:=first | omega | assumption | (simp; done) | fail) [hd,h1,h1',zas e',zag]
      · rw [hv] at e e'
        cases hf:B.failed (k:Int)
        · rw [hf] at hfa
          by_cases hn:(k:Int) < B.n
          · rw [if_pos (by rw [hup,e,hf]; simp [hn])]
            have hn':¬ B.n≤(k:Int):=by omega
            simp (disch:=first | omega | assumption | (simp; done) | fail) [hd,h1,h1',zas e',hfa,hbl,hn',zag]
          · rw [if_neg (by rw [hup]; simp [hn])]
            have hn':B.n≤(k:Int):=by omega
            simp (disch:=first | omega | assumption | (simp; done) | fail) [hd,h1,h1',zas e',hfa,hbl,hn',zag]
        · rw [hf] at hfa
          rw [if_neg (by rw [hup,hf]; simp)]
          simp (disch:=first | omega | assumption | (simp; done) | fail) [hd,h1,h1',zas e',hfa,zag]
    · have e:live[k]? =none:=List.getElem?_eq_none (by omega)
      have h1':(live.length:Int)≤(k:Int):=by omega
      rw [if_neg (by rw [hup,e]; simp)]
      simp (disch:=first | omega | assumption | (simp; done) | fail) [hd,h1,h1',zag]
  · intro again
    dsimp only [st]
    have hd:¬ ((g.d.toNat:Nat):Int) < g.d:=by omega
    simp (disch:=first | omega | assumption | (simp; done) | fail) [hd,zxB]
end
def zzy (n:Int) (k:Nat):List Bool:=
  let a:=List.replicate k true
  let c:=if n % 3 > 0 then a.set (qn n 3 % k).toNat false else a
  if n % 9=8 then c.set (qn n 27 % k).toNat false else c
theorem zzz (n:Int) (k:Nat):(zzy n k).length=k:=by unfold zzy; dsimp only; split<;>split<;>simp
theorem zzA (n:Int) {k:Nat} (h1:1≤k) (h8:k≤8):zbs [.int .i64 n,.int .i64 k]=some (.sl .own ((zzy n k).map D.bool)):=by
  rw [zkV]
  unfold zfe
  have w3:=ziK n 3 (by omega) (by omega)
  have w9:=ziK n 9 (by omega) (by omega)
  have wk:=fun m=>ziK m (k:Int) (by omega) (by omega)
  let st:Nat→(Int×Int×List D×Int×Int×PUnit)×PUnit:=fun j=>((n,(k:Int),(List.range k).map (fun i=>D.bool (decide (i < j))),(k:Int),(j:Int),PUnit.unit),PUnit.unit)
  have hst:st 0=((n,(k:Int),List.replicate k (D.bool false),(k:Int),0,PUnit.unit),PUnit.unit):=by
    have:(List.range k).map (fun i=>D.bool (decide (i < 0)))=List.replicate k (D.bool false):=by
      apply List.ext_getElem?; intro j
      by_cases hj:j < k
      · simp [hj]
      · rw [List.getElem?_eq_none (by simp; omega),List.getElem?_eq_none (by simp; omega)]
    simp only [st,this]; rfl
  rw [zac (by omega),zac (by rfl),zac (by omega),zac (by omega),zac (by simp),zac (by simp),Int.toNat_natCast,←hst]
  refine zcu st k (by omega) ?_ ?_
  · intro again j hj
    dsimp only [st]
    have hg:((List.range k).map (fun i=>D.bool (decide (i < j))))[j]? =some (.bool false):=by simp [hj]
    have hs:=zxx hj
    simp (disch:=first | omega | assumption | (simp; done) | fail) [hj,zas hg,D.isAgg,zag,hs]
  · intro again
    dsimp only [st]
    have hall:(List.range k).map (fun i=>D.bool (decide (i < k)))=(List.replicate k true).map D.bool:=by
      apply List.ext_getElem?; intro j
      by_cases hj:j < k
      · simp [hj]
      · rw [List.getElem?_eq_none (by simp; omega),List.getElem?_eq_none (by simp; omega)]
    have e3:IntKind.i64.wrap (n.tdiv 3)=qn n 3:=rfl
    have e27:IntKind.i64.wrap (n.tdiv 27)=qn n 27:=rfl
    have a0:=Int.emod_nonneg (qn n 3) (show (k:Int)≠0 by omega)
    have a1:=Int.emod_lt_of_pos (qn n 3) (show 0 < (k:Int) by omega)
    have b0:=Int.emod_nonneg (qn n 27) (show (k:Int)≠0 by omega)
    have b1:=Int.emod_lt_of_pos (qn n 27) (show 0 < (k:Int) by omega)
    have a2:(qn n 3 % (k:Int)).toNat < k:=by omega
    have b2:(qn n 27 % (k:Int)).toNat < k:=by omega
    have hk0:0 < (k:Int):=by omega
    have hset:∀ (l:List Bool) (i:Nat),(l.map D.bool).set i (.bool false)=(l.set i false).map D.bool:=by intro l i; rw [List.map_set]
    have hget:∀ (l:List Bool) (i:Nat),i < l.length→∃ x,(l.map D.bool)[i]? =some (.bool x):=by
      intro l i hi; exact ⟨l[i],by simp [hi]⟩
    rw [hall]
    unfold zzy
    dsimp only
    generalize hl0:List.replicate k true=l0
    have hl0l:l0.length=k:=by rw [←hl0]; simp
    obtain ⟨x1,g1⟩:=hget l0 (qn n 3 % (k:Int)).toNat (by omega)
    obtain ⟨x2,g2⟩:=hget l0 (qn n 27 % (k:Int)).toNat (by omega)
    obtain ⟨x3,g3⟩:=hget (l0.set (qn n 3 % (k:Int)).toNat false) (qn n 27 % (k:Int)).toNat (by simp; omega)
    have hfree:=fun l=>zxw l
    by_cases h3:n % 3 > 0
    · by_cases h9:n % 9=8
      · rw [if_pos h3,if_pos h9]
        simp (disch:=first | omega | assumption | (simp; done) | fail) [-List.all_eq_true,-List.map_set,hk0,w3,show 0 < n % 3 from h3,e3,wk,a0,a2,hl0l,zas g1,D.isAgg,w9,h9,e27,b0,b2,hset,zas g3,hfree]
      · rw [if_pos h3,if_neg h9]
        simp (disch:=first | omega | assumption | (simp; done) | fail) [-List.all_eq_true,-List.map_set,hk0,w3,show 0 < n % 3 from h3,e3,wk,a0,a2,hl0l,zas g1,D.isAgg,w9,h9,hset,hfree]
    · have h3':¬ 0 < n % 3:=h3
      by_cases h9:n % 9=8
      · rw [if_neg h3,if_pos h9]
        simp (disch:=first | omega | assumption | (simp; done) | fail) [-List.all_eq_true,-List.map_set,hk0,w3,h3',wk,hl0l,D.isAgg,w9,h9,e27,b0,b2,hset,zas g2,hfree]
      · rw [if_neg h3,if_neg h9]
        simp (disch:=first | omega | assumption | (simp; done) | fail) [-List.all_eq_true,-List.map_set,hk0,w3,h3',wk,hl0l,D.isAgg,w9,h9,hset,hfree]
end Wf

namespace Wf
open Go Go.RowKit Go.Proofs
set_option linter.unusedSimpArgs false
set_option linter.unusedVariables false
set_option maxHeartbeats 4000000
section
variable {B:Ben}
end
end Wf

namespace Wf
open Go Go.RowKit Go.Proofs
set_option linter.unusedSimpArgs false
set_option linter.unusedVariables false
set_option maxHeartbeats 4000000
theorem zxC (B:Ben) (live:List Bool) (k:Nat):D.lentE (zgS B live k)=zgS B live k:=by
  rw [zpg]
  unfold zgS
  rw [List.map_map]
  rfl
theorem zrD (B:Ben) (live:List Bool) {k:Nat} {d:Int} (d0:0≤d) (d1:d < k):zng d (.bool false) (zgS B live k)=.bool (!B.up live d):=by
  obtain ⟨n,rfl⟩:∃ n:Nat,d=n:=⟨d.toNat,by omega⟩
  unfold zng
  rw [zrC]
  cases hu:B.up live (n:Int)
  · rw [if_pos ⟨by omega,rfl⟩]; rfl
  · rw [if_neg (fun q=>by cases q.2)]; rfl
theorem zqe (u p:Nat→Bool):∀ k,(List.range k).countP (fun d=> !u d && !p d)+(List.range k).countP p=(List.range k).countP (fun d=> !u d)+(List.range k).countP (fun d=>u d && p d)
  | 0=>rfl
  | k+1=>by
    have:=zqe u p k
    simp only [List.range_succ,List.countP_append,List.countP_cons,List.countP_nil]
    cases u k<;>cases p k<;>simp<;>omega
theorem zzB {g:Geo} {r:Int} (hr:zb5 g r=true):((List.range g.d.toNat).countP fun (d:Nat)=>decide ((d:Int)=(parP g r).1) || decide ((d:Int)=(parP g r).2))=(g.l - 4).toNat:=by
  have hk:=(zbE.1 hr).1
  have hl:=zd7.1 hk
  have:=zt8 hr (fun d=>decide (d=(parP g r).1) || decide (d=(parP g r).2))
  rw [this]
  have hz:(List.range g.width.toNat).countP (fun (k:Nat)=>decide (zch g r k=(parP g r).1) || decide (zch g r k=(parP g r).2))=0:=by
    rw [List.countP_eq_zero]
    intro k hk'
    have hk1:=List.mem_range.1 hk'
    have:=zss hr (k:=k) (by omega) (by omega)
    simp [this.1,this.2]
  rw [hz]
  have:=znp hr
  rcases this with ⟨_,_,h | h⟩
  · simp [h.2]
  · simp [h.2.2]
theorem zwG (g:Geo):zaq [.agg [.int .i64 g.l,.int .i64 g.d,.int .i64 g.c]]=some (.int .i64 g.cap):=by
  rw [zho]
  unfold zdo
  have hw:0≤g.width∧g.width≤8:=by
    unfold Geo.width ziP
    split
    · rename_i h; have:=zb2 h; unfold Geo.width ziP at this; rw [if_pos h] at this; omega
    · omega
  have hb:IntKind.i64.wrap (g.width*16)=g.width*16:=zag (by omega) (by omega)
  simp [zge,hb,zws]
theorem zCK (g:Geo) (a:Int):zbv [.agg [.int .i64 g.l,.int .i64 g.d,.int .i64 g.c],.int .i64 a]=some (.tup [.int .i64 (ofP g a).1,.int .i64 (ofP g a).2.1,.bool (ofP g a).2.2]):=by
  have hdk:=fun row k=>zux g row k
  have hck:zad [.agg [.int .i64 g.l,.int .i64 g.d,.int .i64 g.c]]=some (.bool g.ok):=zkf g.l g.d g.c
  rw [zlY]
  unfold zfG
  cases hk:g.ok
  · have:ofP g a=(0,0,false):=by
      unfold ofP
      rw [if_neg]
      rintro ⟨h0,h1⟩
      rw [zrl h0 h1] at hk; cases hk
    rw [hk] at hck
    simp [hck,this]
  · rw [hk] at hck
    rw [zwG,zge]
    unfold ofP
    by_cases h0:a < 0
    · simp [hck,h0,show ¬ 0≤a by omega]
    · by_cases h1:g.cap≤a
      · simp [hck,h0,h1,show ¬ a < g.cap by omega]
      · have h0:0≤a:=by omega
        have h1:a < g.cap:=by omega
        have hd:=ok_d hk
        have hw:=zb2 hk
        have hv:=zAm hk h0
        have hr:=zmx h0 h1
        have hca:g.cap=g.width*16:=rfl
        have hvw:a / g.c / g.width≤a / g.c:=Int.ediv_le_self _ hv.1
        have w1:IntKind.i64.wrap (a.tdiv g.c)=a / g.c:=by rw [zt4 hk h0]; exact zag (by omega) (by omega)
        have w2:IntKind.i64.wrap ((a / g.c).tdiv g.width)=a / g.c / g.width:=by rw [Int.tdiv_eq_ediv_of_nonneg hv.1]; exact zag (by omega) (by omega)
        have hm:0≤a / g.c / g.width*g.c:=Int.mul_nonneg hr.2.2.1 (by omega)
        have w3:IntKind.i64.wrap (a / g.c / g.width*g.c)=a / g.c / g.width*g.c:=zag (by omega) (by omega)
        have w4:IntKind.i64.wrap (a / g.c / g.width*g.c+a.tmod g.c)=rowG g a:=by rw [zjD h0]; exact zag (by omega) (by omega)
        have t5:(a / g.c).tmod g.width=zca g a:=zjD hv.1
        simp [hck,h0,h1,show ¬ a < 0 by omega,show ¬ g.cap≤a by omega,w1,w2,w3,w4,t5,show g.c≠0 by omega,show g.width≠0 by omega,hdk]
theorem zBq {g:Geo} {r:Int} (hr:zb5 g r=true) (B:Ben) (live:List Bool) (tg:Tag):
    za8 [.agg [.int .i64 g.l,.int .i64 g.d,.int .i64 g.c],.int .i64 r,.mp tg (.int .i64) (zgS B live g.d.toNat)]=some (.bool (decide ((B.lostN live g:Int)≤g.l - 4))):=by
  rw [zk3,zxC]
  unfold zfi
  have hk:=(zbE.1 hr).1
  have hdd:=ok_d hk
  have hll:=zd7.1 hk
  have hpi:=znp hr
  have hcs:=zqe (fun d=>B.up live d) (fun d=>decide ((d:Int)=(parP g r).1) || decide ((d:Int)=(parP g r).2)) g.d.toNat
  rw [zzB hr] at hcs
  have hrp:zah [.agg [.int .i64 g.l,.int .i64 g.d,.int .i64 g.c],.int .i64 r]=some (.tup [.int .i64 (parP g r).1,.int .i64 (parP g r).2]):=zsT g r
  have hln:B.lostN live g=(List.range g.d.toNat).countP fun (d:Nat)=> !B.up live d:=rfl
  have hlk:=fun (k:Nat) (hk:k < g.d.toNat)=>zrD B live (k:=g.d.toNat) (d:=(k:Int)) (by omega) (by omega)
  generalize zgS B live g.d.toNat=E at*
  generalize (parP g r).1=p at*
  generalize (parP g r).2=q at*
  simp (disch:=first | omega | assumption | (simp; done) | fail) [-List.all_eq_true,hrp]
  let lo:Nat→Nat:=fun k=>(List.range k).countP fun (d:Nat)=> !B.up live d && !(decide ((d:Int)=p) || decide ((d:Int)=q))
  let th:Nat→Nat:=fun k=>(List.range k).countP fun (d:Nat)=>B.up live d && (decide ((d:Int)=p) || decide ((d:Int)=q))
  have hlo:∀ k,lo k≤k:=fun k=>Nat.le_trans List.countP_le_length (by simp)
  have hth:∀ k,th k≤k:=fun k=>Nat.le_trans List.countP_le_length (by simp)
  have hls:∀ k,lo (k+1)=lo k+if B.up live k=false∧¬ (k:Int)=p∧¬ (k:Int)=q then 1 else 0:=by
    intro k
    simp only [lo,List.range_succ,List.countP_append,List.countP_cons,List.countP_nil]
    cases B.up live (k:Int)<;>by_cases h1:(k:Int)=p<;>by_cases h2:(k:Int)=q<;>simp [h1,h2]
  have hts:∀ k,th (k+1)=th k+if B.up live k=true∧((k:Int)=p∨(k:Int)=q) then 1 else 0:=by
    intro k
    simp only [th,List.range_succ,List.countP_append,List.countP_cons,List.countP_nil]
    cases B.up live (k:Int)<;>by_cases h1:(k:Int)=p<;>by_cases h2:(k:Int)=q<;>simp [h1,h2]
  let st:Nat→(List (Int×D)×(Int×Int×Int×PUnit)×Int×Int×Int×Int×Int×PUnit)×PUnit:=fun k=>((E,(g.l,g.d,g.c,PUnit.unit),p,q,(lo k:Int),(th k:Int),(k:Int),PUnit.unit),PUnit.unit)
  show zb3 _ (st 0)=_
  refine zcu st g.d.toNat (by omega) ?_ ?_
  · intro again k hk'
    dsimp only [st]
    have hd:(k:Int) < g.d:=by omega
    rw [hls,hts]
    have h8:=hlo k
    have h9:=hth k
    have hl:=hlk k hk'
    cases hu:B.up live (k:Int)
    · rw [hu] at hl
      by_cases h1:(k:Int)=p
      · subst h1
        simp (disch:=first | omega | assumption | (simp; done) | fail) [hd,hl,zag]
      · by_cases h2:(k:Int)=q
        · subst h2
          simp (disch:=first | omega | assumption | (simp; done) | fail) [hd,h1,hl,zag]
        · simp (disch:=first | omega | assumption | (simp; done) | fail) [hd,h1,h2,hl,zag]
    · rw [hu] at hl
      by_cases h1:(k:Int)=p
      · subst h1
        simp (disch:=first | omega | assumption | (simp; done) | fail) [hd,hl,zag]
      · by_cases h2:(k:Int)=q
        · subst h2
          simp (disch:=first | omega | assumption | (simp; done) | fail) [hd,h1,hl,zag]
        · simp (disch:=first | omega | assumption | (simp; done) | fail) [hd,h1,h2,hl,zag]
  · intro again
    dsimp only [st]
    have hd:¬ ((g.d.toNat:Nat):Int) < g.d:=by omega
    have:lo g.d.toNat+(g.l - 4).toNat=B.lostN live g+th g.d.toNat:=by rw [hln]; exact hcs
    have hiff:(lo g.d.toNat:Int)≤(th g.d.toNat:Int)↔(B.lostN live g:Int)≤g.l - 4:=by
      generalize lo g.d.toNat=x at*
      generalize th g.d.toNat=y at*
      omega
    have he:decide ((lo g.d.toNat:Int)≤(th g.d.toNat:Int))=decide ((B.lostN live g:Int)≤g.l - 4):=decide_eq_decide.2 hiff
    simp (disch:=first | omega | assumption | (simp; done) | fail) only [hd,decide_false,zc9,zaA,he]
end Wf

namespace Wf
open Go Go.RowKit Go.Proofs
set_option linter.unusedVariables false
set_option maxRecDepth 100000
def zdJ:Ann:={ loops:=[(1,[.dead,.dead,.val (.cell .lent),.dead,.dead,.val (.cell (.int .i64)),.val (.cell (.int .i64)),.dead,.dead,.dead,.dead,.dead,.dead,.dead,.dead,.box true [(.int .i64),(.int .i64),(.int .i64)],.ptr 3840,.own 1]),(2,[.dead,.dead,.val (.cell .lent),.dead,.dead,.dead,.val (.cell (.int .i64)),.dead,.dead,.dead,.dead,.dead,.dead,.dead,.dead,.box true [(.int .i64),(.int .i64),(.int .i64)],.ptr 3840,.own 1,.val (.cell (.mapo (.int .i64)))]),(9,[.dead,.dead,.val (.cell .lent),.dead,.dead,.dead,.val (.cell (.int .i64)),.dead,.dead,.dead,.dead,.dead,.dead,.dead,.dead,.box true [(.int .i64),(.int .i64),(.int .i64)],.dead,.dead,.dead,.dead,.val (.cell (.int .i64)),.val (.cell .sl),.dead,.val (.cell (.int .i64)),.dead,.val (.cell (.int .i64)),.dead,.dead,.dead,.dead,.dead,.dead,.dead,.dead,.dead,.dead,.dead,.dead,.dead,.dead,.dead,.dead,.dead,.dead,.dead,.dead,.dead,.dead,.dead,.dead,.dead,.dead,.dead,.dead,.dead,.dead,.dead,.dead,.dead,.dead,.dead,.dead,.dead,.dead,.dead,.dead,.dead,.dead,.dead,.dead,.dead,.dead,.dead,.dead,.dead,.dead,.dead,.dead,.dead,.dead,.dead,.dead,.dead,.dead,.dead,.dead,.dead,.dead,.dead,.dead,.dead,.dead,.dead,.dead,.dead,.dead,.dead,.dead,.dead,.dead,.dead,.dead,.dead,.dead,.dead,.dead,.dead,.dead,.dead,.dead,.dead,.dead,.dead,.dead,.dead,.dead,.dead,.dead,.dead,.dead,.dead,.dead,.dead,.dead,.dead,.dead,.dead,.dead,.dead,.dead,.dead,.dead,.dead,.dead,.dead,.dead,.dead,.dead,.dead,.dead,.dead,.dead,.dead,.dead,.dead,.dead,.dead,.dead,.dead,.dead,.dead,.dead,.dead,.dead,.dead,.dead,.dead,.dead,.dead,.dead,.dead,.own 1,.val (.cell (.int .i64)),.val (.cell (.int .i64))]),(11,[.dead,.dead,.val (.cell .lent),.dead,.dead,.dead,.val (.cell (.int .i64)),.dead,.dead,.dead,.dead,.dead,.dead,.dead,.dead,.box true [(.int .i64),(.int .i64),(.int .i64)],.dead,.dead,.dead,.dead,.val (.cell (.int .i64)),.val (.cell .sl),.dead,.val (.cell (.int .i64)),.dead,.val (.cell (.int .i64)),.dead,.dead,.dead,.dead,.dead,.dead,.dead,.dead,.dead,.dead,.dead,.dead,.dead,.dead,.dead,.dead,.dead,.dead,.dead,.dead,.dead,.dead,.dead,.dead,.dead,.dead,.dead,.dead,.dead,.dead,.dead,.dead,.dead,.dead,.dead,.dead,.dead,.dead,.dead,.dead,.dead,.dead,.dead,.dead,.dead,.dead,.dead,.dead,.dead,.dead,.dead,.dead,.dead,.dead,.dead,.dead,.dead,.dead,.dead,.dead,.dead,.dead,.dead,.dead,.dead,.dead,.dead,.dead,.dead,.dead,.dead,.dead,.dead,.dead,.dead,.dead,.dead,.dead,.dead,.dead,.dead,.dead,.dead,.dead,.dead,.dead,.dead,.dead,.dead,.dead,.dead,.dead,.dead,.dead,.dead,.dead,.dead,.dead,.dead,.dead,.dead,.dead,.dead,.dead,.dead,.dead,.dead,.dead,.dead,.dead,.dead,.dead,.dead,.dead,.dead,.dead,.dead,.dead,.dead,.dead,.dead,.dead,.dead,.dead,.dead,.dead,.dead,.dead,.dead,.dead,.dead,.dead,.dead,.dead,.dead,.own 1,.val (.cell (.int .i64)),.val (.cell (.int .i64))]),(4,[.dead,.dead,.val (.cell .lent),.dead,.dead,.dead,.val (.cell (.int .i64)),.dead,.dead,.dead,.dead,.dead,.dead,.dead,.dead,.box true [(.int .i64),(.int .i64),(.int .i64)],.ptr 3840,.own 1,.val (.cell (.mapo (.int .i64)))])],ks:=[(3840,true),(7649,true)] }
noncomputable def zcV:List D→Option D:=denT Try.prog (zax [(ID.wattleplay_Good,(.pure [0] zbq)),(ID.wattlekeep_Within,(.pure [0] zab)),(ID.wattlelaw14_Filled,(.st [] [0] [(3840,true),(7649,true)] zaY)),(ID.wattleplay_Live,(.pure [1] zbs)),(ID.bench_Bench_Fail,(.st [] [0] [(3840,false),(7649,true)] za6)),(ID.wattlelaw14_lost,(.st [] [0] [(3840,false),(7649,false)] zbi)),(ID.stripe_Read,(.st [] [1,0] [(3840,false),(7649,false)] zaL)),(ID.wattlelaw14_can,(.pure [0] za8)),(ID.wattlelaw14_Data,(.pure [1] zaS)),(ID.wattlelaw14_Same,(.pure [0] za9)),(ID.wattleref01_Capacity,(.pure [0] zaq)),(ID.stripe_One,(.st [] [0,0] [(3840,false),(7649,false)] zb1)),(ID.wattleref01_Of,(.pure [0,0,0] zbv)),(ID.wattlelaw14_wakes,(.pure [0] zaH)),(ID.wattleref01_Numbers,(.pure [1] zaN)),(ID.wattlekeep_Same_byte,(.pure [0] zae))]) zdJ [0] ID.wattlelaw14_StripeReads
theorem sound_wattlelaw14_StripeReads:za0 Try.prog ID.wattlelaw14_StripeReads (.pure [0] zcV):=zre (zaz [zkI,zcG,ziA,zkU,zjP,zjU,zfF,zk2,zj9,zkb,zd9,zp4,zlX,zjg,zh3,zcU]) zby ⟨Try.f3,by kernel_rfl,by kernel_rfl,by kernel_rfl⟩
noncomputable def zcW (zbq:List D→Option D) (zab:List D→Option D) (zaY:List D→List Tb→Option Ans) (zbs:List D→Option D) (za6:List D→List Tb→Option Ans) (zbi:List D→List Tb→Option Ans) (zaL:List D→List Tb→Option Ans) (za8:List D→Option D) (zaS:List D→Option D) (za9:List D→Option D) (zaq:List D→Option D) (zb1:List D→List Tb→Option Ans) (zbv:List D→Option D) (zaH:List D→Option D) (zaN:List D→Option D) (zae:List D→Option D) (a0:Int) (a1:Int) (a2:List D) (a3:Int) (a4:Int) (a5:Int) (a6:Int):Option D:=
  zap (zbq [D.int IntKind.i64 a0]) fun r1=>
  asAgg r1 fun cs2=>
  zay ([Lf.int IntKind.i64,Lf.int IntKind.i64,Lf.int IntKind.i64]) cs2 fun c3=>
  zap (zab [D.int IntKind.i64 a1,D.int IntKind.i64 (2:Int)]) fun r4=>
  asI IntKind.i64 r4 fun i5=>
  letN (IntKind.wrap IntKind.i64 (c3.snd.fst+i5)) fun n6=>
  letN (min n6 (8:Int)) fun n7=>
  zap (zaY [D.agg [D.int IntKind.i64 c3.fst,D.int IntKind.i64 c3.snd.fst,D.int IntKind.i64 c3.snd.snd.fst],D.int IntKind.i64 n7,D.sl Tag.lent a2] [[],[]]) fun r8=>
  nilK r8.outs <|
  zhD r8.tbs fun c9 q10=>
  zhD q10 fun c11 q12=>
  nilK q12 <|
  sif (zg1 r8.r=true) <|
  znc r8.r fun b13=>
  brK b13
    (some (D.bool false))
    (zap (zbs [D.int IntKind.i64 a3,D.int IntKind.i64 n7]) fun r14=>
    zbl r14 fun l15=>
    zap (zab [D.int IntKind.i64 a4,D.int IntKind.i64 (3:Int)]) fun r16=>
    asI IntKind.i64 r16 fun i17=>
    jn (α:=(List D×Int×Int×(Int×Int×Int×PUnit)×D×List D×PUnit)×List (List D)×List (List D)×PUnit) (fun a18=>
        sif ((0:Nat)+List.length a18.fst.snd.snd.snd.snd.snd.fst≤List.length a18.fst.snd.snd.snd.snd.snd.fst) <|
        zap (zbi [a18.fst.snd.snd.snd.snd.fst,D.sl Tag.lent (cut (0:Nat) (List.length a18.fst.snd.snd.snd.snd.snd.fst) a18.fst.snd.snd.snd.snd.snd.fst),D.agg [D.int IntKind.i64 a18.fst.snd.snd.snd.fst.fst,D.int IntKind.i64 a18.fst.snd.snd.snd.fst.snd.fst,D.int IntKind.i64 a18.fst.snd.snd.snd.fst.snd.snd.fst]] [a18.snd.fst,a18.snd.snd.fst]) fun r19=>
        nilK r19.outs <|
        nilK r19.tbs <|
        zg0 (MK.int IntKind.i64) r19.r fun m20=>
        zap (zab [D.int IntKind.i64 a18.fst.snd.fst,D.int IntKind.i64 (18:Int)]) fun r21=>
        asI IntKind.i64 r21 fun i22=>
        letN (IntKind.wrap IntKind.i64 (i22 - (1:Int))) fun n23=>
        sif ((0:Nat)+List.length a18.fst.snd.snd.snd.snd.snd.fst≤List.length a18.fst.snd.snd.snd.snd.snd.fst) <|
        zap (zaL [a18.fst.snd.snd.snd.snd.fst,D.sl Tag.lent (cut (0:Nat) (List.length a18.fst.snd.snd.snd.snd.snd.fst) a18.fst.snd.snd.snd.snd.snd.fst),D.agg [D.int IntKind.i64 a18.fst.snd.snd.snd.fst.fst,D.int IntKind.i64 a18.fst.snd.snd.snd.fst.snd.fst,D.int IntKind.i64 a18.fst.snd.snd.snd.fst.snd.snd.fst],D.int IntKind.i64 n23] [a18.snd.fst,a18.snd.snd.fst]) fun r24=>
        nilK r24.outs <|
        nilK r24.tbs <|
        zdP r24.r fun ts25=>
        zay ([Lf.any,Lf.any]) ts25 fun c26=>
        zbl c26.fst fun l27=>
        asI IntKind.i64 c26.snd.fst fun i28=>
        brK (decide (n23 < (0:Int)))
          (jn (α:=(List D×Int×(Int×Int×Int×PUnit)×D×List D×List (Int×D)×PUnit)×List (List D)×List (List D)×PUnit) (fun a29=>
              zap (zaq [D.agg [D.int IntKind.i64 a29.fst.snd.snd.fst.fst,D.int IntKind.i64 a29.fst.snd.snd.fst.snd.fst,D.int IntKind.i64 a29.fst.snd.snd.fst.snd.snd.fst]]) fun r30=>
              asI IntKind.i64 r30 fun i31=>
              letN (IntKind.wrap IntKind.i64 (i31+(2:Int))) fun n32=>
              zap (zab [D.int IntKind.i64 a29.fst.snd.fst,D.int IntKind.i64 n32]) fun r33=>
              asI IntKind.i64 r33 fun i34=>
              letN (IntKind.wrap IntKind.i64 (i34 - (1:Int))) fun n35=>
              sif ((0:Nat)+List.length a29.fst.snd.snd.snd.snd.fst≤List.length a29.fst.snd.snd.snd.snd.fst) <|
              zap (zb1 [a29.fst.snd.snd.snd.fst,D.sl Tag.lent (cut (0:Nat) (List.length a29.fst.snd.snd.snd.snd.fst) a29.fst.snd.snd.snd.snd.fst),D.agg [D.int IntKind.i64 a29.fst.snd.snd.fst.fst,D.int IntKind.i64 a29.fst.snd.snd.fst.snd.fst,D.int IntKind.i64 a29.fst.snd.snd.fst.snd.snd.fst],D.int IntKind.i64 n35] [a29.snd.fst,a29.snd.snd.fst]) fun r36=>
              nilK r36.outs <|
              nilK r36.tbs <|
              zdP r36.r fun ts37=>
              zay ([Lf.any,Lf.any]) ts37 fun c38=>
              asSl c38.fst fun t39 l40=>
              sif (zg1 (D.sl t39 l40)=true) <|
              asI IntKind.i64 c38.snd.fst fun i41=>
              zap (zbv [D.agg [D.int IntKind.i64 a29.fst.snd.snd.fst.fst,D.int IntKind.i64 a29.fst.snd.snd.fst.snd.fst,D.int IntKind.i64 a29.fst.snd.snd.fst.snd.snd.fst],D.int IntKind.i64 n35]) fun r42=>
              zdP r42 fun ts43=>
              zay ([Lf.any,Lf.any,Lf.any]) ts43 fun c44=>
              asI IntKind.i64 c44.fst fun i45=>
              asI IntKind.i64 c44.snd.fst fun i46=>
              asB c44.snd.snd.fst fun b47=>
              brK (!b47)
                (brK (i41 == (4:Int))
                  (brK ((↑(List.length l40):Int) == (0:Int))
                    (zap (zaH []) fun r48=>
                    asB r48 fun b49=>
                    some (D.bool b49))
                    (some (D.bool false)))
                  (some (D.bool false)))
                (asB (zng i45 (D.bool false) a29.fst.snd.snd.snd.snd.snd.fst) fun b50=>
                brK b50
                  (zap (za8 [D.agg [D.int IntKind.i64 a29.fst.snd.snd.fst.fst,D.int IntKind.i64 a29.fst.snd.snd.fst.snd.fst,D.int IntKind.i64 a29.fst.snd.snd.fst.snd.snd.fst],D.int IntKind.i64 i46,D.mp Tag.own (MK.int IntKind.i64) a29.fst.snd.snd.snd.snd.snd.fst]) fun r51=>
                  asB r51 fun b52=>
                  brK (!b52)
                    (brK (i41 == (7:Int))
                      (brK ((↑(List.length l40):Int) == (0:Int))
                        (zap (zaH []) fun r53=>
                        asB r53 fun b54=>
                        some (D.bool b54))
                        (some (D.bool false)))
                      (some (D.bool false)))
                    (zap (zaN [D.agg [D.int IntKind.i64 a29.fst.snd.snd.fst.fst,D.int IntKind.i64 a29.fst.snd.snd.fst.snd.fst,D.int IntKind.i64 a29.fst.snd.snd.fst.snd.snd.fst],D.int IntKind.i64 i46]) fun r55=>
                    zbl r55 fun l56=>
                    sif ((0:Nat)+List.length l56≤List.length l56) <|
                    sif (List.length l56=List.length l56) <|
                    zb3 (α:=(List D×Int×(Int×Int×Int×PUnit)×Int×(Tag×List D)×Int×Int×List D×Int×Int×PUnit)×List (List D)×List (List D)×PUnit) (fun again57 ((l58,(i59,((i60,(i61,(i62,_))),(i63,((t64,l65),(i66,(i67,(l68,(i69,(i70,_)))))))))),(U71,(U72,_)))=>
                      brK (decide (i70 < i69))
                        (sif ((0:Int)≤i70) <|
                        sif (Int.toNat i70 < List.length l68) <|
                        getK l68 ((0:Nat)+Int.toNat i70) fun d73=>
                        asI IntKind.i64 d73 fun i74=>
                        jn (α:=(List D×Int×(Int×Int×Int×PUnit)×Int×(Tag×List D)×Int×Int×List D×Int×Int×PUnit)×List (List D)×List (List D)×PUnit) (fun a75=>
                            letN (IntKind.wrap IntKind.i64 (a75.fst.snd.snd.snd.snd.snd.snd.snd.snd.snd.fst+(1:Int))) fun n76=>
                            sif (List.length a75.fst.snd.snd.snd.snd.snd.snd.snd.fst=List.length a75.fst.snd.snd.snd.snd.snd.snd.snd.fst) <|
                            again57 (((a75.fst.fst,a75.fst.snd.fst,(a75.fst.snd.snd.fst.fst,a75.fst.snd.snd.fst.snd.fst,a75.fst.snd.snd.fst.snd.snd.fst,PUnit.unit),a75.fst.snd.snd.snd.fst,(a75.fst.snd.snd.snd.snd.fst.fst,a75.fst.snd.snd.snd.snd.fst.snd),a75.fst.snd.snd.snd.snd.snd.fst,a75.fst.snd.snd.snd.snd.snd.snd.fst,a75.fst.snd.snd.snd.snd.snd.snd.snd.fst,a75.fst.snd.snd.snd.snd.snd.snd.snd.snd.fst,n76,PUnit.unit),a75.snd.fst,a75.snd.snd.fst,PUnit.unit)))
                          (fun j77=>
                          brK (i74 == i59)
                            (sif (List.length l68=List.length l68) <|
                            j77 (((l58,i59,(i60,i61,i62,PUnit.unit),i63,(t64,l65),i66,i70,l68,i69,i70,PUnit.unit),U71,U72,PUnit.unit)))
                            (sif (List.length l68=List.length l68) <|
                            j77 (((l58,i59,(i60,i61,i62,PUnit.unit),i63,(t64,l65),i66,i67,l68,i69,i70,PUnit.unit),U71,U72,PUnit.unit)))))
                        (brK (i63 == (0:Int))
                          (zap (zaS [D.agg [D.int IntKind.i64 i60,D.int IntKind.i64 i61,D.int IntKind.i64 i62],D.int IntKind.i64 i66,D.sl Tag.lent l58]) fun r78=>
                          zbl r78 fun l79=>
                          sif ((0:Int)≤i67) <|
                          sif (Int.toNat i67 < List.length l79) <|
                          getK l79 ((0:Nat)+Int.toNat i67) fun d80=>
                          asSl d80 fun t81 l82=>
                          zap (zae [D.sl t64 l65,D.sl t81 l82]) fun r83=>
                          asB r83 fun b84=>
                          brK b84
                            (zap (zaH []) fun r85=>
                            asB r85 fun b86=>
                            some (D.bool b86))
                            (some (D.bool false)))
                          (some (D.bool false))))
                      (((a29.fst.fst,n35,(a29.fst.snd.snd.fst.fst,a29.fst.snd.snd.fst.snd.fst,a29.fst.snd.snd.fst.snd.snd.fst,PUnit.unit),i41,(t39,l40),i46,(0:Int),l56,(↑(List.length l56):Int),(0:Int),PUnit.unit),a29.snd.fst,a29.snd.snd.fst,PUnit.unit))))
                  (zap (zaN [D.agg [D.int IntKind.i64 a29.fst.snd.snd.fst.fst,D.int IntKind.i64 a29.fst.snd.snd.fst.snd.fst,D.int IntKind.i64 a29.fst.snd.snd.fst.snd.snd.fst],D.int IntKind.i64 i46]) fun r87=>
                  zbl r87 fun l88=>
                  sif ((0:Nat)+List.length l88≤List.length l88) <|
                  sif (List.length l88=List.length l88) <|
                  zb3 (α:=(List D×Int×(Int×Int×Int×PUnit)×Int×(Tag×List D)×Int×Int×List D×Int×Int×PUnit)×List (List D)×List (List D)×PUnit) (fun again89 ((l90,(i91,((i92,(i93,(i94,_))),(i95,((t96,l97),(i98,(i99,(l100,(i101,(i102,_)))))))))),(U103,(U104,_)))=>
                    brK (decide (i102 < i101))
                      (sif ((0:Int)≤i102) <|
                      sif (Int.toNat i102 < List.length l100) <|
                      getK l100 ((0:Nat)+Int.toNat i102) fun d105=>
                      asI IntKind.i64 d105 fun i106=>
                      jn (α:=(List D×Int×(Int×Int×Int×PUnit)×Int×(Tag×List D)×Int×Int×List D×Int×Int×PUnit)×List (List D)×List (List D)×PUnit) (fun a107=>
                          letN (IntKind.wrap IntKind.i64 (a107.fst.snd.snd.snd.snd.snd.snd.snd.snd.snd.fst+(1:Int))) fun n108=>
                          sif (List.length a107.fst.snd.snd.snd.snd.snd.snd.snd.fst=List.length a107.fst.snd.snd.snd.snd.snd.snd.snd.fst) <|
                          again89 (((a107.fst.fst,a107.fst.snd.fst,(a107.fst.snd.snd.fst.fst,a107.fst.snd.snd.fst.snd.fst,a107.fst.snd.snd.fst.snd.snd.fst,PUnit.unit),a107.fst.snd.snd.snd.fst,(a107.fst.snd.snd.snd.snd.fst.fst,a107.fst.snd.snd.snd.snd.fst.snd),a107.fst.snd.snd.snd.snd.snd.fst,a107.fst.snd.snd.snd.snd.snd.snd.fst,a107.fst.snd.snd.snd.snd.snd.snd.snd.fst,a107.fst.snd.snd.snd.snd.snd.snd.snd.snd.fst,n108,PUnit.unit),a107.snd.fst,a107.snd.snd.fst,PUnit.unit)))
                        (fun j109=>
                        brK (i106 == i91)
                          (sif (List.length l100=List.length l100) <|
                          j109 (((l90,i91,(i92,i93,i94,PUnit.unit),i95,(t96,l97),i98,i102,l100,i101,i102,PUnit.unit),U103,U104,PUnit.unit)))
                          (sif (List.length l100=List.length l100) <|
                          j109 (((l90,i91,(i92,i93,i94,PUnit.unit),i95,(t96,l97),i98,i99,l100,i101,i102,PUnit.unit),U103,U104,PUnit.unit)))))
                      (brK (i95 == (0:Int))
                        (zap (zaS [D.agg [D.int IntKind.i64 i92,D.int IntKind.i64 i93,D.int IntKind.i64 i94],D.int IntKind.i64 i98,D.sl Tag.lent l90]) fun r110=>
                        zbl r110 fun l111=>
                        sif ((0:Int)≤i99) <|
                        sif (Int.toNat i99 < List.length l111) <|
                        getK l111 ((0:Nat)+Int.toNat i99) fun d112=>
                        asSl d112 fun t113 l114=>
                        zap (zae [D.sl t96 l97,D.sl t113 l114]) fun r115=>
                        asB r115 fun b116=>
                        brK b116
                          (zap (zaH []) fun r117=>
                          asB r117 fun b118=>
                          some (D.bool b118))
                          (some (D.bool false)))
                        (some (D.bool false))))
                    (((a29.fst.fst,n35,(a29.fst.snd.snd.fst.fst,a29.fst.snd.snd.fst.snd.fst,a29.fst.snd.snd.fst.snd.snd.fst,PUnit.unit),i41,(t39,l40),i46,(0:Int),l88,(↑(List.length l88):Int),(0:Int),PUnit.unit),a29.snd.fst,a29.snd.snd.fst,PUnit.unit)))))
            (fun j119=>
            brK (i28 != (1:Int))
              (some (D.bool false))
              (sif ((0:Nat)+List.length l27≤List.length l27) <|
              brK ((↑(List.length l27):Int) != (0:Int))
                (some (D.bool false))
                (sif (List.length a18.fst.snd.snd.snd.snd.snd.fst=List.length a18.fst.snd.snd.snd.snd.snd.fst) <|
                j119 (((a18.fst.fst,a18.fst.snd.snd.fst,(a18.fst.snd.snd.snd.fst.fst,a18.fst.snd.snd.snd.fst.snd.fst,a18.fst.snd.snd.snd.fst.snd.snd.fst,PUnit.unit),a18.fst.snd.snd.snd.snd.fst,a18.fst.snd.snd.snd.snd.snd.fst,m20,PUnit.unit),a18.snd.fst,a18.snd.snd.fst,PUnit.unit))))))
          (jn (α:=(List D×Int×(Int×Int×Int×PUnit)×D×List D×List (Int×D)×PUnit)×List (List D)×List (List D)×PUnit) (fun a120=>
              zap (zaq [D.agg [D.int IntKind.i64 a120.fst.snd.snd.fst.fst,D.int IntKind.i64 a120.fst.snd.snd.fst.snd.fst,D.int IntKind.i64 a120.fst.snd.snd.fst.snd.snd.fst]]) fun r121=>
              asI IntKind.i64 r121 fun i122=>
              letN (IntKind.wrap IntKind.i64 (i122+(2:Int))) fun n123=>
              zap (zab [D.int IntKind.i64 a120.fst.snd.fst,D.int IntKind.i64 n123]) fun r124=>
              asI IntKind.i64 r124 fun i125=>
              letN (IntKind.wrap IntKind.i64 (i125 - (1:Int))) fun n126=>
              sif ((0:Nat)+List.length a120.fst.snd.snd.snd.snd.fst≤List.length a120.fst.snd.snd.snd.snd.fst) <|
              zap (zb1 [a120.fst.snd.snd.snd.fst,D.sl Tag.lent (cut (0:Nat) (List.length a120.fst.snd.snd.snd.snd.fst) a120.fst.snd.snd.snd.snd.fst),D.agg [D.int IntKind.i64 a120.fst.snd.snd.fst.fst,D.int IntKind.i64 a120.fst.snd.snd.fst.snd.fst,D.int IntKind.i64 a120.fst.snd.snd.fst.snd.snd.fst],D.int IntKind.i64 n126] [a120.snd.fst,a120.snd.snd.fst]) fun r127=>
              nilK r127.outs <|
              nilK r127.tbs <|
              zdP r127.r fun ts128=>
              zay ([Lf.any,Lf.any]) ts128 fun c129=>
              asSl c129.fst fun t130 l131=>
              sif (zg1 (D.sl t130 l131)=true) <|
              asI IntKind.i64 c129.snd.fst fun i132=>
              zap (zbv [D.agg [D.int IntKind.i64 a120.fst.snd.snd.fst.fst,D.int IntKind.i64 a120.fst.snd.snd.fst.snd.fst,D.int IntKind.i64 a120.fst.snd.snd.fst.snd.snd.fst],D.int IntKind.i64 n126]) fun r133=>
              zdP r133 fun ts134=>
              zay ([Lf.any,Lf.any,Lf.any]) ts134 fun c135=>
              asI IntKind.i64 c135.fst fun i136=>
              asI IntKind.i64 c135.snd.fst fun i137=>
              asB c135.snd.snd.fst fun b138=>
              brK (!b138)
                (brK (i132 == (4:Int))
                  (brK ((↑(List.length l131):Int) == (0:Int))
                    (zap (zaH []) fun r139=>
                    asB r139 fun b140=>
                    some (D.bool b140))
                    (some (D.bool false)))
                  (some (D.bool false)))
                (asB (zng i136 (D.bool false) a120.fst.snd.snd.snd.snd.snd.fst) fun b141=>
                brK b141
                  (zap (za8 [D.agg [D.int IntKind.i64 a120.fst.snd.snd.fst.fst,D.int IntKind.i64 a120.fst.snd.snd.fst.snd.fst,D.int IntKind.i64 a120.fst.snd.snd.fst.snd.snd.fst],D.int IntKind.i64 i137,D.mp Tag.own (MK.int IntKind.i64) a120.fst.snd.snd.snd.snd.snd.fst]) fun r142=>
                  asB r142 fun b143=>
                  brK (!b143)
                    (brK (i132 == (7:Int))
                      (brK ((↑(List.length l131):Int) == (0:Int))
                        (zap (zaH []) fun r144=>
                        asB r144 fun b145=>
                        some (D.bool b145))
                        (some (D.bool false)))
                      (some (D.bool false)))
                    (zap (zaN [D.agg [D.int IntKind.i64 a120.fst.snd.snd.fst.fst,D.int IntKind.i64 a120.fst.snd.snd.fst.snd.fst,D.int IntKind.i64 a120.fst.snd.snd.fst.snd.snd.fst],D.int IntKind.i64 i137]) fun r146=>
                    zbl r146 fun l147=>
                    sif ((0:Nat)+List.length l147≤List.length l147) <|
                    sif (List.length l147=List.length l147) <|
                    zb3 (α:=(List D×Int×(Int×Int×Int×PUnit)×Int×(Tag×List D)×Int×Int×List D×Int×Int×PUnit)×List (List D)×List (List D)×PUnit) (fun again148 ((l149,(i150,((i151,(i152,(i153,_))),(i154,((t155,l156),(i157,(i158,(l159,(i160,(i161,_)))))))))),(U162,(U163,_)))=>
                      brK (decide (i161 < i160))
                        (sif ((0:Int)≤i161) <|
                        sif (Int.toNat i161 < List.length l159) <|
                        getK l159 ((0:Nat)+Int.toNat i161) fun d164=>
                        asI IntKind.i64 d164 fun i165=>
                        jn (α:=(List D×Int×(Int×Int×Int×PUnit)×Int×(Tag×List D)×Int×Int×List D×Int×Int×PUnit)×List (List D)×List (List D)×PUnit) (fun a166=>
                            letN (IntKind.wrap IntKind.i64 (a166.fst.snd.snd.snd.snd.snd.snd.snd.snd.snd.fst+(1:Int))) fun n167=>
                            sif (List.length a166.fst.snd.snd.snd.snd.snd.snd.snd.fst=List.length a166.fst.snd.snd.snd.snd.snd.snd.snd.fst) <|
                            again148 (((a166.fst.fst,a166.fst.snd.fst,(a166.fst.snd.snd.fst.fst,a166.fst.snd.snd.fst.snd.fst,a166.fst.snd.snd.fst.snd.snd.fst,PUnit.unit),a166.fst.snd.snd.snd.fst,(a166.fst.snd.snd.snd.snd.fst.fst,a166.fst.snd.snd.snd.snd.fst.snd),a166.fst.snd.snd.snd.snd.snd.fst,a166.fst.snd.snd.snd.snd.snd.snd.fst,a166.fst.snd.snd.snd.snd.snd.snd.snd.fst,a166.fst.snd.snd.snd.snd.snd.snd.snd.snd.fst,n167,PUnit.unit),a166.snd.fst,a166.snd.snd.fst,PUnit.unit)))
                          (fun j168=>
                          brK (i165 == i150)
                            (sif (List.length l159=List.length l159) <|
                            j168 (((l149,i150,(i151,i152,i153,PUnit.unit),i154,(t155,l156),i157,i161,l159,i160,i161,PUnit.unit),U162,U163,PUnit.unit)))
                            (sif (List.length l159=List.length l159) <|
                            j168 (((l149,i150,(i151,i152,i153,PUnit.unit),i154,(t155,l156),i157,i158,l159,i160,i161,PUnit.unit),U162,U163,PUnit.unit)))))
                        (brK (i154 == (0:Int))
                          (zap (zaS [D.agg [D.int IntKind.i64 i151,D.int IntKind.i64 i152,D.int IntKind.i64 i153],D.int IntKind.i64 i157,D.sl Tag.lent l149]) fun r169=>
                          zbl r169 fun l170=>
                          sif ((0:Int)≤i158) <|
                          sif (Int.toNat i158 < List.length l170) <|
                          getK l170 ((0:Nat)+Int.toNat i158) fun d171=>
                          asSl d171 fun t172 l173=>
                          zap (zae [D.sl t155 l156,D.sl t172 l173]) fun r174=>
                          asB r174 fun b175=>
                          brK b175
                            (zap (zaH []) fun r176=>
                            asB r176 fun b177=>
                            some (D.bool b177))
                            (some (D.bool false)))
                          (some (D.bool false))))
                      (((a120.fst.fst,n126,(a120.fst.snd.snd.fst.fst,a120.fst.snd.snd.fst.snd.fst,a120.fst.snd.snd.fst.snd.snd.fst,PUnit.unit),i132,(t130,l131),i137,(0:Int),l147,(↑(List.length l147):Int),(0:Int),PUnit.unit),a120.snd.fst,a120.snd.snd.fst,PUnit.unit))))
                  (zap (zaN [D.agg [D.int IntKind.i64 a120.fst.snd.snd.fst.fst,D.int IntKind.i64 a120.fst.snd.snd.fst.snd.fst,D.int IntKind.i64 a120.fst.snd.snd.fst.snd.snd.fst],D.int IntKind.i64 i137]) fun r178=>
                  zbl r178 fun l179=>
                  sif ((0:Nat)+List.length l179≤List.length l179) <|
                  sif (List.length l179=List.length l179) <|
                  zb3 (α:=(List D×Int×(Int×Int×Int×PUnit)×Int×(Tag×List D)×Int×Int×List D×Int×Int×PUnit)×List (List D)×List (List D)×PUnit) (fun again180 ((l181,(i182,((i183,(i184,(i185,_))),(i186,((t187,l188),(i189,(i190,(l191,(i192,(i193,_)))))))))),(U194,(U195,_)))=>
                    brK (decide (i193 < i192))
                      (sif ((0:Int)≤i193) <|
                      sif (Int.toNat i193 < List.length l191) <|
                      getK l191 ((0:Nat)+Int.toNat i193) fun d196=>
                      asI IntKind.i64 d196 fun i197=>
                      jn (α:=(List D×Int×(Int×Int×Int×PUnit)×Int×(Tag×List D)×Int×Int×List D×Int×Int×PUnit)×List (List D)×List (List D)×PUnit) (fun a198=>
                          letN (IntKind.wrap IntKind.i64 (a198.fst.snd.snd.snd.snd.snd.snd.snd.snd.snd.fst+(1:Int))) fun n199=>
                          sif (List.length a198.fst.snd.snd.snd.snd.snd.snd.snd.fst=List.length a198.fst.snd.snd.snd.snd.snd.snd.snd.fst) <|
                          again180 (((a198.fst.fst,a198.fst.snd.fst,(a198.fst.snd.snd.fst.fst,a198.fst.snd.snd.fst.snd.fst,a198.fst.snd.snd.fst.snd.snd.fst,PUnit.unit),a198.fst.snd.snd.snd.fst,(a198.fst.snd.snd.snd.snd.fst.fst,a198.fst.snd.snd.snd.snd.fst.snd),a198.fst.snd.snd.snd.snd.snd.fst,a198.fst.snd.snd.snd.snd.snd.snd.fst,a198.fst.snd.snd.snd.snd.snd.snd.snd.fst,a198.fst.snd.snd.snd.snd.snd.snd.snd.snd.fst,n199,PUnit.unit),a198.snd.fst,a198.snd.snd.fst,PUnit.unit)))
                        (fun j200=>
                        brK (i197 == i182)
                          (sif (List.length l191=List.length l191) <|
                          j200 (((l181,i182,(i183,i184,i185,PUnit.unit),i186,(t187,l188),i189,i193,l191,i192,i193,PUnit.unit),U194,U195,PUnit.unit)))
                          (sif (List.length l191=List.length l191) <|
                          j200 (((l181,i182,(i183,i184,i185,PUnit.unit),i186,(t187,l188),i189,i190,l191,i192,i193,PUnit.unit),U194,U195,PUnit.unit)))))
                      (brK (i186 == (0:Int))
                        (zap (zaS [D.agg [D.int IntKind.i64 i183,D.int IntKind.i64 i184,D.int IntKind.i64 i185],D.int IntKind.i64 i189,D.sl Tag.lent l181]) fun r201=>
                        zbl r201 fun l202=>
                        sif ((0:Int)≤i190) <|
                        sif (Int.toNat i190 < List.length l202) <|
                        getK l202 ((0:Nat)+Int.toNat i190) fun d203=>
                        asSl d203 fun t204 l205=>
                        zap (zae [D.sl t187 l188,D.sl t204 l205]) fun r206=>
                        asB r206 fun b207=>
                        brK b207
                          (zap (zaH []) fun r208=>
                          asB r208 fun b209=>
                          some (D.bool b209))
                          (some (D.bool false)))
                        (some (D.bool false))))
                    (((a120.fst.fst,n126,(a120.fst.snd.snd.fst.fst,a120.fst.snd.snd.fst.snd.fst,a120.fst.snd.snd.fst.snd.snd.fst,PUnit.unit),i132,(t130,l131),i137,(0:Int),l179,(↑(List.length l179):Int),(0:Int),PUnit.unit),a120.snd.fst,a120.snd.snd.fst,PUnit.unit)))))
            (fun j210=>
            brK (decide (n23≥(16:Int)))
              (brK (i28 != (1:Int))
                (some (D.bool false))
                (sif ((0:Nat)+List.length l27≤List.length l27) <|
                brK ((↑(List.length l27):Int) != (0:Int))
                  (some (D.bool false))
                  (sif (List.length a18.fst.snd.snd.snd.snd.snd.fst=List.length a18.fst.snd.snd.snd.snd.snd.fst) <|
                  j210 (((a18.fst.fst,a18.fst.snd.snd.fst,(a18.fst.snd.snd.snd.fst.fst,a18.fst.snd.snd.snd.fst.snd.fst,a18.fst.snd.snd.snd.fst.snd.snd.fst,PUnit.unit),a18.fst.snd.snd.snd.snd.fst,a18.fst.snd.snd.snd.snd.snd.fst,m20,PUnit.unit),a18.snd.fst,a18.snd.snd.fst,PUnit.unit)))))
              (zap (za8 [D.agg [D.int IntKind.i64 a18.fst.snd.snd.snd.fst.fst,D.int IntKind.i64 a18.fst.snd.snd.snd.fst.snd.fst,D.int IntKind.i64 a18.fst.snd.snd.snd.fst.snd.snd.fst],D.int IntKind.i64 n23,D.mp Tag.own (MK.int IntKind.i64) m20]) fun r211=>
              asB r211 fun b212=>
              jn (α:=(List D×Int×(Int×Int×Int×PUnit)×D×List D×List (Int×D)×PUnit)×List (List D)×List (List D)×PUnit) (fun a213=>
                  sif (List.length a213.fst.snd.snd.snd.snd.fst=List.length a213.fst.snd.snd.snd.snd.fst) <|
                  j210 (((a213.fst.fst,a213.fst.snd.fst,(a213.fst.snd.snd.fst.fst,a213.fst.snd.snd.fst.snd.fst,a213.fst.snd.snd.fst.snd.snd.fst,PUnit.unit),a213.fst.snd.snd.snd.fst,a213.fst.snd.snd.snd.snd.fst,a213.fst.snd.snd.snd.snd.snd.fst,PUnit.unit),a213.snd.fst,a213.snd.snd.fst,PUnit.unit)))
                (fun j214=>
                brK (!b212)
                  (brK (i28 != (7:Int))
                    (some (D.bool false))
                    (sif ((0:Nat)+List.length l27≤List.length l27) <|
                    brK ((↑(List.length l27):Int) != (0:Int))
                      (some (D.bool false))
                      (sif (List.length a18.fst.snd.snd.snd.snd.snd.fst=List.length a18.fst.snd.snd.snd.snd.snd.fst) <|
                      j214 (((a18.fst.fst,a18.fst.snd.snd.fst,(a18.fst.snd.snd.snd.fst.fst,a18.fst.snd.snd.snd.fst.snd.fst,a18.fst.snd.snd.snd.fst.snd.snd.fst,PUnit.unit),a18.fst.snd.snd.snd.snd.fst,a18.fst.snd.snd.snd.snd.snd.fst,m20,PUnit.unit),a18.snd.fst,a18.snd.snd.fst,PUnit.unit)))))
                  (brK (i28 != (0:Int))
                    (some (D.bool false))
                    (zap (zaS [D.agg [D.int IntKind.i64 a18.fst.snd.snd.snd.fst.fst,D.int IntKind.i64 a18.fst.snd.snd.snd.fst.snd.fst,D.int IntKind.i64 a18.fst.snd.snd.snd.fst.snd.snd.fst],D.int IntKind.i64 n23,D.sl Tag.lent a18.fst.fst]) fun r215=>
                    zbl r215 fun l216=>
                    sif ((0:Nat)+List.length l27≤List.length l27) <|
                    sif ((0:Nat)+List.length l216≤List.length l216) <|
                    zap (za9 [D.sl Tag.lent (cut (0:Nat) (List.length l27) l27),D.sl Tag.lent (cut (0:Nat) (List.length l216) l216)]) fun r217=>
                    asB r217 fun b218=>
                    brK (!b218)
                      (some (D.bool false))
                      (sif (List.length a18.fst.snd.snd.snd.snd.snd.fst=List.length a18.fst.snd.snd.snd.snd.snd.fst) <|
                      j214 (((a18.fst.fst,a18.fst.snd.snd.fst,(a18.fst.snd.snd.snd.fst.fst,a18.fst.snd.snd.snd.fst.snd.fst,a18.fst.snd.snd.snd.fst.snd.snd.fst,PUnit.unit),a18.fst.snd.snd.snd.snd.fst,a18.fst.snd.snd.snd.snd.snd.fst,m20,PUnit.unit),a18.snd.fst,a18.snd.snd.fst,PUnit.unit))))))))))
      (fun j219=>
      brK (i17 == (0:Int))
        (zap (zab [D.int IntKind.i64 a4,D.int IntKind.i64 n7]) fun r220=>
        asI IntKind.i64 r220 fun i221=>
        zap (za6 [r8.r,D.int IntKind.i64 i221] [c9,c11]) fun r222=>
        nilK r222.outs <|
        zhD r222.tbs fun c223 q224=>
        nilK q224 <|
        asI IntKind.i64 r222.r fun i225=>
        sif (List.length l15=List.length l15) <|
        j219 (((a2,a5,a6,(c3.fst,c3.snd.fst,c3.snd.snd.fst,PUnit.unit),r8.r,l15,PUnit.unit),c9,c223,PUnit.unit)))
        (sif (List.length l15=List.length l15) <|
        j219 (((a2,a5,a6,(c3.fst,c3.snd.fst,c3.snd.snd.fst,PUnit.unit),r8.r,l15,PUnit.unit),c9,c11,PUnit.unit)))))
theorem zhr (zbq:List D→Option D) (zab:List D→Option D) (zaY:List D→List Tb→Option Ans) (zbs:List D→Option D) (za6:List D→List Tb→Option Ans) (zbi:List D→List Tb→Option Ans) (zaL:List D→List Tb→Option Ans) (za8:List D→Option D) (zaS:List D→Option D) (za9:List D→Option D) (zaq:List D→Option D) (zb1:List D→List Tb→Option Ans) (zbv:List D→Option D) (zaH:List D→Option D) (zaN:List D→Option D) (zae:List D→Option D) (tga2:Tag) (a0:Int) (a1:Int) (a2:List D) (a3:Int) (a4:Int) (a5:Int) (a6:Int):denT Try.prog (zax [(ID.wattleplay_Good,(.pure [0] zbq)),(ID.wattlekeep_Within,(.pure [0] zab)),(ID.wattlelaw14_Filled,(.st [] [0] [(3840,true),(7649,true)] zaY)),(ID.wattleplay_Live,(.pure [1] zbs)),(ID.bench_Bench_Fail,(.st [] [0] [(3840,false),(7649,true)] za6)),(ID.wattlelaw14_lost,(.st [] [0] [(3840,false),(7649,false)] zbi)),(ID.stripe_Read,(.st [] [1,0] [(3840,false),(7649,false)] zaL)),(ID.wattlelaw14_can,(.pure [0] za8)),(ID.wattlelaw14_Data,(.pure [1] zaS)),(ID.wattlelaw14_Same,(.pure [0] za9)),(ID.wattleref01_Capacity,(.pure [0] zaq)),(ID.stripe_One,(.st [] [0,0] [(3840,false),(7649,false)] zb1)),(ID.wattleref01_Of,(.pure [0,0,0] zbv)),(ID.wattlelaw14_wakes,(.pure [0] zaH)),(ID.wattleref01_Numbers,(.pure [1] zaN)),(ID.wattlekeep_Same_byte,(.pure [0] zae))]) zdJ [0] ID.wattlelaw14_StripeReads [.int .i64 a0,.int .i64 a1,.sl tga2 a2,.int .i64 a3,.int .i64 a4,.int .i64 a5,.int .i64 a6]=sif (D.nohL [.int .i64 a0,.int .i64 a1,.sl tga2 a2,.int .i64 a3,.int .i64 a4,.int .i64 a5,.int .i64 a6]=true) (zcW zbq zab zaY zbs za6 zbi zaL za8 zaS za9 zaq zb1 zbv zaH zaN zae a0 a1 (D.lentL a2) a3 a4 a5 a6):=by kernel_rfl
theorem zf9 (tga2:Tag) (a0:Int) (a1:Int) (a2:List D) (a3:Int) (a4:Int) (a5:Int) (a6:Int):zcV [.int .i64 a0,.int .i64 a1,.sl tga2 a2,.int .i64 a3,.int .i64 a4,.int .i64 a5,.int .i64 a6]=sif (D.nohL [.int .i64 a0,.int .i64 a1,.sl tga2 a2,.int .i64 a3,.int .i64 a4,.int .i64 a5,.int .i64 a6]=true) (zcW zbq zab zaY zbs za6 zbi zaL za8 zaS za9 zaq zb1 zbv zaH zaN zae a0 a1 (D.lentL a2) a3 a4 a5 a6):=zhr zbq zab zaY zbs za6 zbi zaL za8 zaS za9 zaq zb1 zbv zaH zaN zae tga2 a0 a1 a2 a3 a4 a5 a6
end Wf

namespace Wf
open Go Go.RowKit Go.Proofs
set_option linter.unusedSimpArgs false
set_option linter.unusedVariables false
set_option maxHeartbeats 4000000
theorem stripe_reads (a0 a1:Int) (l:List Int) (a3 a4 a5 a6:Int) (tg:Tag):zcV [.int .i64 a0,.int .i64 a1,.sl tg (intL l),.int .i64 a3,.int .i64 a4,.int .i64 a5,.int .i64 a6]=some (.bool true):=by
  rw [zf9,zmp]
  rw [zac (by simp [D.nohL,D.noh,zz8])]
  unfold zcW
  have hgood:=zy8 a0
  have hk:=zxg a0
  generalize zt2 a0=g at*
  have hgD:g.D=.agg [.int .i64 g.l,.int .i64 g.d,.int .i64 g.c]:=rfl
  rw [hgD] at hgood
  have hdd:=ok_d hk
  have hll:=zd7.1 hk
  have hww:=zb2 hk
  have w2:=ziK a1 2 (by omega) (by omega)
  have t0:=Int.emod_nonneg a1 (show (2:Int)≠0 by omega)
  have t1:=Int.emod_lt_of_pos a1 (show (0:Int) < 2 by omega)
  generalize a1 % 2=x2 at*
  have wr2:IntKind.i64.wrap (g.d+x2)=g.d+x2:=zag (by omega) (by omega)
  obtain ⟨n,hn⟩:∃ n:Nat,(n:Int)=min (g.d+x2) 8:=⟨(min (g.d+x2) 8).toNat,by omega⟩
  have n1:1≤n:=by omega
  have n8:n≤8:=by omega
  have nd:g.d≤n:=by omega
  have hfr:=zxz [] [] hk (n:=n) n1 n8 .lent l
  simp only [List.length_nil] at hfr
  obtain ⟨U,V,idx,B0,hfil,hB0,hS0,hw0,hc0,_⟩:=hfr
  have hlive:=zzA a3 (k:=n) n1 n8
  have hlen:=zzz a3 n
  generalize zzy a3 n=live at*
  have w3:=ziK a4 3 (by omega) (by omega)
  have wd:=ziK a4 (n:Int) (by omega) (by omega)
  have w18:=ziK a5 18 (by omega) (by omega)
  have d0:=Int.emod_nonneg a4 (show (n:Int)≠0 by omega)
  have d1:=Int.emod_lt_of_pos a4 (show 0 < (n:Int) by omega)
  have r0:=Int.emod_nonneg a5 (show (18:Int)≠0 by omega)
  have r1:=Int.emod_lt_of_pos a5 (show (0:Int) < 18 by omega)
  have hcap:32≤g.cap∧g.cap≤112:=by have:g.cap=g.width*16:=rfl; omega
  have wc:=ziK a6 (g.cap+2) (by omega) (by omega)
  have c0:=Int.emod_nonneg a6 (show (g.cap+2:Int)≠0 by omega)
  have c1:=Int.emod_lt_of_pos a6 (show (0:Int) < g.cap+2 by omega)
  generalize a4 % (n:Int)=xd at*
  generalize a4 % 3=x3 at*
  generalize a5 % 18=r18 at*
  generalize a6 % (g.cap+2)=at2 at*
  have hwc:IntKind.i64.wrap (g.cap+2)=g.cap+2:=zag (by omega) (by omega)
  obtain ⟨a,ha⟩:∃ a:Int,a=at2 - 1:=⟨_,rfl⟩
  have hwa:IntKind.i64.wrap (at2 - 1)=a:=by rw [ha]; exact zag (by omega) (by omega)
  let W:Ben→Prop:=fun B=>Run U V 0 idx B n 0∧P0 U 0 idx B0=P0 U 0 idx B∧
    ∀ d s:Int,0≤d→d < g.d→B.failed d=false→0≤s→s < 16→B.cur d (36+s)=atR g s (rowL g l s.toNat) d
  have hW0:W B0:=⟨hB0,rfl,fun d s d0 d1 _ s0 s1=>hc0 d s d0 d1 (by omega) s0 s1⟩
  obtain ⟨B3,e3,q3,hB3,f3,b3,c3⟩:=hB0.fail (d:=xd) d0 (by omega)
  have hW3:W B3:=by
    refine ⟨hB3,q3,fun d s e0 e1 hf s0 s1=>?_⟩
    rw [f3 d e0 (by omega)] at hf
    rw [c3 d _ e0 (fun q=>by simp [q] at hf),hc0 d s e0 e1 (by omega) s0 s1]
  rw [hgood,zai,zjy,zg3,zg3,zg3,zer]
  rw [w2,zai,zbF]
  rw [zaQ,wr2,zaQ,←hn]
  simp (disch:=first | omega | assumption | (simp; done) | fail) [-List.all_eq_true,-zz6,-zwF,hfil,hlive,w3]
  refine zsX (fun a=>∃ B,W B∧a=((intL l,a5,a6,(g.l,g.d,g.c,PUnit.unit),.h kB 0 0,live.map D.bool,PUnit.unit),P0 U 0 idx B0,P1 V idx B,PUnit.unit)) ?_ ?_
  rotate_left
  · intro j hj
    by_cases h:x3=0
    · simp (disch:=first | omega | assumption | (simp; done) | fail) [-List.all_eq_true,h,wd,e3]
      exact hj _ ⟨B3,hW3,rfl⟩
    · simp (disch:=first | omega | assumption | (simp; done) | fail) [-List.all_eq_true,h]
      exact hj _ ⟨B0,hW0,rfl⟩
  rintro _ ⟨B,⟨hB,hP,hC⟩,rfl⟩
  dsimp only
  rw [hP]
  have hlost:=zCJ hB.at' .lent live hk
  have hrow:∀ s d:Int,0≤s→s < 16→0≤d→d < g.d→B.up live d=true→B.cur d (36+s)=atR g s (rowL g l s.toNat) d:=by
    intro s d s0 s1 d0 d1 hu
    refine hC d s d0 d1 ?_ s0 s1
    unfold Ben.up at hu
    cases hf:B.failed d
    · rfl
    · rw [hf] at hu; simp at hu
  obtain ⟨r,hr'⟩:∃ r:Int,r=r18 - 1:=⟨_,rfl⟩
  have hwr:IntKind.i64.wrap (r18 - 1)=r:=by rw [hr']; exact zag (by omega) (by omega)
  have hrd:=hB.read (by omega) .lent live g r
  have ho1:=zxt hB.at' (by have:=hB.w; omega) .lent live g a
  have hof:=zCK g a
  have hcf:=zwG g
  have hcs:r < 0∨16≤r∨zb5 g r=true:=by
    by_cases h0:r < 0
    · exact .inl h0
    · by_cases h1:16≤r
      · exact .inr (.inl h1)
      · exact .inr (.inr (zbE.2 ⟨hk,by omega,by omega⟩))
  have hdl:=fun s:Nat=>(zhc hk l s).len
  rcases hcs with h | h | h
  case' refine_1.inl=>
    have hf:zb5 g r=false:=by
      cases hf:zb5 g r
      · rfl
      · have:=zbE.1 hf; omega
    have hv:B.sRead live g r=([],1):=by unfold Ben.sRead; rw [if_pos hf]
    rw [hv] at hrd
    simp (disch:=first | omega | assumption | (simp; done) | fail) [-List.all_eq_true,-zz6,-zwF,hlost,w18,hwr,hrd,h]
    refine zsX (fun x=>x=((intL l,a6,(g.l,g.d,g.c,PUnit.unit),.h kB 0 0,live.map D.bool,zgS B live g.d.toNat,PUnit.unit),P0 U 0 idx B,P1 V idx B,PUnit.unit)) ?_ ?_
    rotate_left
    · intro j hj
      exact hj _ rfl
    rintro _ rfl
    dsimp only
    clear hv hf h
  case' refine_1.inr.inl=>
    have hf:zb5 g r=false:=by
      cases hf:zb5 g r
      · rfl
      · have:=zbE.1 hf; omega
    have hv:B.sRead live g r=([],1):=by unfold Ben.sRead; rw [if_pos hf]
    rw [hv] at hrd
    have hn0:¬ r < 0:=by omega
    simp (disch:=first | omega | assumption | (simp; done) | fail) [-List.all_eq_true,-zz6,-zwF,hlost,w18,hwr,hrd,h,hn0]
    refine zsX (fun x=>x=((intL l,a6,(g.l,g.d,g.c,PUnit.unit),.h kB 0 0,live.map D.bool,zgS B live g.d.toNat,PUnit.unit),P0 U 0 idx B,P1 V idx B,PUnit.unit)) ?_ ?_
    rotate_left
    · intro j hj
      exact hj _ rfl
    rintro _ rfl
    dsimp only
    clear hv hf h hn0
  case' refine_1.inr.inr=>
    obtain ⟨_,rr0,rr1⟩:=zbE.1 h
    have hn0:¬ r < 0:=by omega
    have hn1:¬ 16≤r:=by omega
    have hv:=zoL (B:=B) (live:=live) h (zhc hk l r.toNat) hB.down (fun d e0 e1 hu=>hrow r d rr0 rr1 e0 e1 hu)
    have hcan:=zBq h B live .own
    have hdata:=zuD g hk r rr0 .lent l
    have hsame:=zxy .lent .lent (ls:=rowL g l r.toNat) (by have:=hdl r.toNat; omega) (fun x hx=>by have:=((zhc hk l r.toNat).sec x hx).len; omega)
    simp (disch:=first | omega | assumption | (simp; done) | fail) [-List.all_eq_true,-zz6,-zwF,hlost,w18,hwr,hrd,hn0]
    refine zsX (fun x=>x=((intL l,a6,(g.l,g.d,g.c,PUnit.unit),.h kB 0 0,live.map D.bool,zgS B live g.d.toNat,PUnit.unit),P0 U 0 idx B,P1 V idx B,PUnit.unit)) ?_ ?_
    rotate_left
    · intro j hj
      by_cases hb:(B.lostN live g:Int)≤g.l - 4
      · rw [if_pos hb] at hv
        rw [hv]
        simp (disch:=first | omega | assumption | (simp; done) | fail) [-List.all_eq_true,hn1,hcan,hb,hdata,hsame]
        exact hj _ rfl
      · rw [if_neg hb] at hv
        rw [hv]
        simp (disch:=first | omega | assumption | (simp; done) | fail) [-List.all_eq_true,hn1,hcan,hb]
        exact hj _ rfl
    rintro _ rfl
    dsimp only
    clear hv h hn0 hn1 hcan hdata hsame
  all_goals
    by_cases hin:0≤a∧a < g.cap
    · have ho:ofP g a=(zch g (rowG g a) (zca g a),rowG g a,true):=by unfold ofP; rw [if_pos hin]
      have hrf:=zmx hin.1 hin.2
      have hfi:zb5 g (rowG g a)=true:=zbE.2 ⟨hk,hrf.1,hrf.2.1⟩
      have hco:0≤zca g a∧zca g a < g.width:=zCq hk (a / g.c)
      have hdi:=zin hfi (k:=zca g a) hco.1 hco.2
      have hv:=zCr (B:=B) (live:=live) hin.1 hin.2 (zhc hk l (rowG g a).toNat) hB.down (fun d e0 e1 hu=>hrow (rowG g a) d hrf.1 hrf.2.1 e0 e1 hu)
      have hcan:=zBq hfi B live .own
      have hdata:=zuD g hk (rowG g a) hrf.1 .lent l
      have hlk:=zrD B live (k:=g.d.toNat) (d:=zch g (rowG g a) (zca g a)) hdi.1 (by omega)
      have hnum:=zzk g (rowG g a)
      have hsr:=zoL (B:=B) (live:=live) hfi (zhc hk l (rowG g a).toNat) hB.down (fun d e0 e1 hu=>hrow (rowG g a) d hrf.1 hrf.2.1 e0 e1 hu)
      have hT:B.oneT live g a=if B.up live (zch g (rowG g a) (zca g a))=true∨(B.lostN live g:Int)≤g.l - 4 then .fresh else .nil:=by
        unfold Ben.oneT
        rw [ho,hsr]
        dsimp only
        rw [if_neg (by simp)]
        by_cases hu:B.up live (zch g (rowG g a) (zca g a))=true
        · rw [if_pos hu,if_pos (.inl hu)]
        · rw [if_neg hu]
          by_cases hb:(B.lostN live g:Int)≤g.l - 4
          · simp [hb]
          · simp [hb,hu]
      rw [ho] at hof hv
      have hge:(rowL g l (rowG g a).toNat)[(zca g a).toNat]? =some ((rowL g l (rowG g a).toNat).getD (zca g a).toNat []):=by
        rw [List.getD_eq_getElem?_getD,List.getElem?_eq_getElem (by have:=hdl (rowG g a).toNat; omega)]; rfl
      have hgt:(pL (fP (rowL g l (rowG g a).toNat)))[(zca g a).toNat]? =some (.sl .fresh (uL ((rowL g l (rowG g a).toNat).getD (zca g a).toNat []))):=zcX (zww hge)
      have hsl:((rowL g l (rowG g a).toNat).getD (zca g a).toNat []).length=32:=((zhc hk l (rowG g a).toNat).sec _ (by
        rw [List.getD_eq_getElem?_getD,List.getElem?_eq_getElem (by have:=hdl (rowG g a).toNat; omega)]; exact List.getElem_mem _)).len
      have hdl2:=hdl (rowG g a).toNat
      generalize (rowL g l (rowG g a).toNat).getD (zca g a).toNat []=sec at*
      generalize rowL g l (rowG g a).toNat=rw' at*
      have hsm:=zp8 .fresh .fresh sec sec (by omega)
      have hcl:zca g a < rw'.length:=by omega
      unfold zsq at hnum
      rw [if_pos hfi] at hnum
      have hnl:(numD g (rowG g a) g.width.toNat).length=g.width.toNat:=by unfold numD; simp
      have hng:∀ k:Nat,k < g.width.toNat→(numD g (rowG g a) g.width.toNat)[k]? =some (iD (numP g (rowG g a) (k:Int))):=fun k hk=>zsr _ _ _ hk
      have hcol:=zvD hin.1 hin.2
      have hinj:∀ k:Nat,k < g.width.toNat→numP g (rowG g a) k=a→(k:Int)=zca g a:=fun k hk e=>zzn hfi (by omega) (by omega) hco.1 hco.2 (by rw [e,hcol])
      generalize numD g (rowG g a) g.width.toNat=nums at*
      obtain ⟨w,hwd⟩:∃ w:Nat,g.width.toNat=w:=⟨_,rfl⟩
      rw [hwd] at hnl hng hinj
      have hloop:∀ (f:(((List D×Int×(Int×Int×Int×PUnit)×Int×(Tag×List D)×Int×Int×List D×Int×Int×PUnit)×Tb×Tb×PUnit)→Option D)→((List D×Int×(Int×Int×Int×PUnit)×Int×(Tag×List D)×Int×Int×List D×Int×Int×PUnit)×Tb×Tb×PUnit)→Option D),
          (∀ again (k:Nat) (c:Int),k < w→f again ((intL l,a,(g.l,g.d,g.c,PUnit.unit),0,(.fresh,uL sec),rowG g a,c,nums,(w:Int),(k:Int),PUnit.unit),P0 U 0 idx B,P1 V idx B,PUnit.unit)=
            again ((intL l,a,(g.l,g.d,g.c,PUnit.unit),0,(.fresh,uL sec),rowG g a,(if numP g (rowG g a) k=a then (k:Int) else c),nums,(w:Int),((k+1:Nat):Int),PUnit.unit),P0 U 0 idx B,P1 V idx B,PUnit.unit))→
          (∀ again,f again ((intL l,a,(g.l,g.d,g.c,PUnit.unit),0,(.fresh,uL sec),rowG g a,zca g a,nums,(w:Int),(w:Int),PUnit.unit),P0 U 0 idx B,P1 V idx B,PUnit.unit)=some (.bool true))→
          zb3 f ((intL l,a,(g.l,g.d,g.c,PUnit.unit),0,(.fresh,uL sec),rowG g a,0,nums,(w:Int),0,PUnit.unit),P0 U 0 idx B,P1 V idx B,PUnit.unit)=some (.bool true):=by
        intro f h1 h2
        let st:Nat→(List D×Int×(Int×Int×Int×PUnit)×Int×(Tag×List D)×Int×Int×List D×Int×Int×PUnit)×Tb×Tb×PUnit:=fun k=>((intL l,a,(g.l,g.d,g.c,PUnit.unit),0,(.fresh,uL sec),rowG g a,(if zca g a < k then zca g a else 0),nums,(w:Int),(k:Int),PUnit.unit),P0 U 0 idx B,P1 V idx B,PUnit.unit)
        have e0:st 0=((intL l,a,(g.l,g.d,g.c,PUnit.unit),0,(.fresh,uL sec),rowG g a,0,nums,(w:Int),0,PUnit.unit),P0 U 0 idx B,P1 V idx B,PUnit.unit):=by
          dsimp only [st]; rw [if_neg (by omega)]; rfl
        rw [←e0]
        refine zcu st w (by omega) ?_ ?_
        · intro again k hk'
          dsimp only [st]
          rw [h1 again k _ hk']
          by_cases e:numP g (rowG g a) k=a
          · have:=hinj k hk' e
            rw [if_pos e,if_pos (show zca g a < ((k+1:Nat):Int) by omega),this]
          · have:(k:Int)≠zca g a:=fun q=>e (by rw [q]; exact hcol)
            rw [if_neg e]
            by_cases h:zca g a < (k:Int)
            · rw [if_pos h,if_pos (by omega)]
            · rw [if_neg h,if_neg (by omega)]
        · intro again
          dsimp only [st]
          rw [if_pos (by omega)]
          exact h2 again
      have hstep:∀ k:Nat,k < w→(k:Int) < (w:Int):=fun k hk=>by omega
      by_cases hu:B.up live (zch g (rowG g a) (zca g a))=true
      · rw [if_pos (.inl hu)] at hv hT
        rw [hv,hT] at ho1
        rw [hu] at hlk
        simp (disch:=first | omega | assumption | (simp; done) | fail) [-List.all_eq_true,hcf,hwc,wc,hwa,ho1,hof,zg1,hlk,hnum,hnl]
        refine hloop _ ?_ ?_
        · intro again k c hk'
          by_cases e:numP g (rowG g a) k=a
          · simp (disch:=first | omega | assumption | (simp; done) | fail) [-List.all_eq_true,hstep k hk',hnl,zas (hng k hk'),e,zag]
          · simp (disch:=first | omega | assumption | (simp; done) | fail) [-List.all_eq_true,hstep k hk',hnl,zas (hng k hk'),e,zag]
        · intro again
          simp (disch:=first | omega | assumption | (simp; done) | fail) [-List.all_eq_true,hdata,zas hgt,hsm,zsW]
      · rw [show B.up live (zch g (rowG g a) (zca g a))=false by simpa using hu] at hlk
        by_cases hb:(B.lostN live g:Int)≤g.l - 4
        · rw [if_pos (.inr hb)] at hv hT
          rw [hv,hT] at ho1
          simp (disch:=first | omega | assumption | (simp; done) | fail) [-List.all_eq_true,hcf,hwc,wc,hwa,ho1,hof,zg1,hlk,hnum,hnl,hcan,hb]
          refine hloop _ ?_ ?_
          · intro again k c hk'
            by_cases e:numP g (rowG g a) k=a
            · simp (disch:=first | omega | assumption | (simp; done) | fail) [-List.all_eq_true,hstep k hk',hnl,zas (hng k hk'),e,zag]
            · simp (disch:=first | omega | assumption | (simp; done) | fail) [-List.all_eq_true,hstep k hk',hnl,zas (hng k hk'),e,zag]
          · intro again
            simp (disch:=first | omega | assumption | (simp; done) | fail) [-List.all_eq_true,hdata,zas hgt,hsm,zsW]
        · rw [if_neg (by simp [hu,hb])] at hv hT
          rw [hv,hT] at ho1
          simp (disch:=first | omega | assumption | (simp; done) | fail) [-List.all_eq_true,hcf,hwc,wc,hwa,ho1,hof,zg1,hlk,hcan,hb,zsW]
    · have ho:ofP g a=(0,0,false):=by unfold ofP; rw [if_neg hin]
      have hv:B.sOne live g a=([],4):=by unfold Ben.sOne; rw [ho]; rfl
      have hT:B.oneT live g a=.nil:=by unfold Ben.oneT; rw [ho]; rfl
      rw [hv,hT] at ho1
      rw [ho] at hof
      simp (disch:=first | omega | assumption | (simp; done) | fail) [-List.all_eq_true,hcf,hwc,wc,hwa,ho1,hof,zg1,zsW]
end Wf

