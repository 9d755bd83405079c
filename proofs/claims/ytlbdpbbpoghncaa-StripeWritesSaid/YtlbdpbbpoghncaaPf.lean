/- A part of the proof: lemmas that the law's row leans on. -/
import Derived.Test.YtlbdpbbpoghncaaPe
import Derived.Test.YtlbdpbbpoghncaaPd
set_option linter.all false
namespace Wf
open Go Go.RowKit Go.Proofs
set_option linter.unusedSimpArgs false
set_option linter.unusedVariables false
theorem zAi (l:List Int):(intL l).all D.free=true:=by simp [intL,D.free]
theorem zAj (l:List Int) (n:Int):intL l++[.int .i64 n]=intL (l++[n]):=by simp [intL]
def zww (ls:List (List Int)) (k:Nat):List Int:=((List.range k).filter fun i=>(ls.getD i []).isEmpty).map Int.ofNat
def miss (ls:List (List Int)):List Int:=zww ls ls.length
theorem zyp (ls:List (List Int)) (k:Nat):zww ls (k+1)=zww ls k++if (ls.getD k []).isEmpty then [(k:Int)] else []:=by
  unfold zww
  rw [List.range_succ,List.filter_append,List.map_append]
  congr 1
  by_cases h:(ls.getD k []).isEmpty=true
  · rw [if_pos h,List.filter_cons_of_pos (p:=fun i=>(ls.getD i []).isEmpty) h]; rfl
  · rw [if_neg h,List.filter_cons_of_neg (p:=fun i=>(ls.getD i []).isEmpty) h]; rfl
theorem zAk (ls:List (List Int)) (k:Nat):(zww ls k).length≤k:=by
  unfold zww
  rw [List.length_map]
  exact Nat.le_trans (List.length_filter_le _ _) (by simp)
theorem znE (tg:Tag) (ps:List Part) (hn:ps.length < 100000):zbC [.sl tg (pL ps)]=some (.sl .own (intL (miss (ps.map (·.2))))):=by
  rw [znq,zcQ]
  have hm:(ps.map fun x=>(zbV x.1 x.2,x.2)).map (·.2)=ps.map (·.2):=by rw [List.map_map]; rfl
  have hlen:(ps.map fun x=>(zbV x.1 x.2,x.2)).length=ps.length:=by simp
  rw [←hm]
  rw [←hlen] at hn
  generalize (ps.map fun x=>(zbV x.1 x.2,x.2))=rs at*
  unfold zgX
  let st:Nat→(List D×List D×Int×Int×PUnit)×PUnit:=fun k=>((intL (zww (rs.map (·.2)) k),pL rs,((pL rs).length:Int),(k:Int),PUnit.unit),PUnit.unit)
  have hst:st 0=(([],pL rs,((pL rs).length:Int),0,PUnit.unit),PUnit.unit):=rfl
  rw [←hst]
  refine zb6 st rs.length (by omega) ?_ ?_
  · intro again k hk
    dsimp only [st]
    obtain ⟨x,hx⟩:∃ x,rs[k]? =some x:=⟨_,List.getElem?_eq_getElem hk⟩
    have hd:decide ((k:Int) < ((pL rs).length:Int))=true:=by simp; omega
    have hk2:=zAk (rs.map (·.2)) k
    have hgd:(rs.map (·.2)).getD k []=x.2:=by simp [List.getD_eq_getElem?_getD,hx]
    rw [hd,za8,zab (by omega),zai (by simpa using zcv hx),zeR,zyp,hgd]
    by_cases he:x.2=[]
    · have hb:(((uL x.2).length:Int) == 0)=true:=by simp [he]
      rw [hb,za8,zab (by rw [zfB]; omega),zab (by rfl),zaQ,zaq (by omega) (by omega),zab (by simp),zAj,he]
      rfl
    · have hb:(((uL x.2).length:Int) == 0)=false:=by simp; omega
      have hb2:x.2.isEmpty=false:=by simp [he]
      rw [hb,zay,zaQ,zaq (by omega) (by omega),zab (by rfl),hb2]
      simp
  · intro again
    dsimp only [st]
    have hd:decide ((rs.length:Int) < ((pL rs).length:Int))=false:=by simp
    rw [hd,zay,zab (by rfl),zab (zAi _)]
    simp [miss]
theorem zFF (t:Tag) (l:List Int) (n:Int):zaE [.sl t (uL l),.at_ (.int .i64 n)]=some (.bool (!fitS n l)):=by
  rw [zoc,zcO]
  unfold zhB fitS
  cases l with
  | nil=>simp
  | cons a l=>
    have hd:decide (((uL (a::l)).length:Int) > 0)=true:=by simp
    rw [hd,za8]
    simp [bne]
    rfl
theorem zrt (tg:Tag) (ps:List Part) (hn:ps.length < 100000) (n:Int):
    ∃ r,zag [.sl tg (pL ps),.fn ID.erase_fits_1 [] [.at_ (.int .i64 n)]]=some r∧∃ i:Int,r=.int .i64 i∧decide (i≥0)= !(ps.all fun x=>fitS n x.2):=by
  rw [zee,zcQ]
  have hm:(ps.all fun x=>fitS n x.2)=((ps.map fun x=>(zbV x.1 x.2,x.2)).all fun x=>fitS n x.2):=by rw [List.all_map]; rfl
  have hlen:(ps.map fun x=>(zbV x.1 x.2,x.2)).length=ps.length:=by simp
  rw [hm]
  rw [←hlen] at hn
  generalize (ps.map fun x=>(zbV x.1 x.2,x.2))=rs at*
  unfold zb8
  refine zxe (fun a=>(rs.length:Nat) - a.1.2.2.2.1.toNat) (fun r=>∃ i:Int,r=D.int .i64 i∧decide (i≥0)= !(rs.all fun x=>fitS n x.2))
    (fun a=>∃ k:Nat,k≤rs.length∧((rs.take k).all fun x=>fitS n x.2)=true∧a=((pL rs,n,(rs.length:Int),(k:Int),PUnit.unit),PUnit.unit)) ?_ ⟨0,by omega,by simp,by rw [zvp]; rfl⟩ (by simp; omega)
  rintro again _ ⟨k,hk,he,rfl⟩ hag
  dsimp only
  by_cases hkm:k < rs.length
  · obtain ⟨x,hx⟩:∃ x,rs[k]? =some x:=⟨_,List.getElem?_eq_getElem hkm⟩
    have hd:decide ((k:Int) < (rs.length:Int))=true:=by simp; omega
    rw [hd,za8,zab (by omega),zai (by simpa using zcv hx),zeR,zFF,zah,zcY]
    cases hf:fitS n x.2
    · refine ⟨_,rfl,_,rfl,?_⟩
      have:(rs.all fun x=>fitS n x.2)=false:=by
        rw [List.all_eq_false]
        exact ⟨x,List.mem_of_getElem? hx,by simp [hf]⟩
      rw [this]
      simp
    · simp only [Bool.not_true,zay,zaQ]
      rw [zaq (by omega) (by omega)]
      refine hag _ ⟨k+1,by omega,?_,rfl⟩ (by simp; omega)
      rw [List.take_add_one,hx,List.all_append,he]
      simp [hf]
  · have hd:decide ((k:Int) < (rs.length:Int))=false:=by simp; omega
    rw [hd,zay]
    refine ⟨_,rfl,_,rfl,?_⟩
    rw [List.take_of_length_le (by omega)] at he
    rw [he]
    rfl
theorem erase_fits (tg:Tag) (ps:List Part) (hn:ps.length < 100000) (n:Int):zb1 [.int .i64 n,.sl tg (pL ps)]=some (.bool (ps.all fun x=>fitS n x.2)):=by
  rw [zqK,zcQ]
  have hm:(ps.all fun x=>fitS n x.2)=((ps.map fun x=>(zbV x.1 x.2,x.2)).all fun x=>fitS n x.2):=by rw [List.all_map]; rfl
  have hlen:(ps.map fun x=>(zbV x.1 x.2,x.2)).length=ps.length:=by simp
  rw [hm]
  rw [←hlen] at hn
  generalize (ps.map fun x=>(zbV x.1 x.2,x.2))=rs at*
  unfold zkp
  have:zae [.sl .lent (pL rs),.fn ID.erase_fits_1 [] [.at_ (.int .i64 n)]]=some (.bool (!(rs.all fun x=>fitS n x.2))):=by
    rw [zdC,zcQ]
    have hm:(rs.all fun x=>fitS n x.2)=((rs.map fun x=>(zbV x.1 x.2,x.2)).all fun x=>fitS n x.2):=by rw [List.all_map]; rfl
    have hlen:(rs.map fun x=>(zbV x.1 x.2,x.2)).length=rs.length:=by simp
    rw [hm]
    rw [←hlen] at hn
    generalize (rs.map fun x=>(zbV x.1 x.2,x.2))=qs at*
    unfold zbZ
    obtain ⟨r,h1,i,rfl,h2⟩:=zrt .lent qs hn n
    rw [h1,zah,zbH,h2]
  rw [this,zah,zcY,Bool.not_not]
theorem zDI {l:List D} {n:Nat} (h:l.length=n):cut 0 n l=l:=by subst h; exact zc7 l
theorem erase_filled (n:Nat) (hn0:n < 100000) (tg:Tag) (ps:List Part) (hn:ps.length < 100000):zbK [.int .i64 n,.sl tg (pL ps)]=some (.sl .own (pL (ps.map fun x=>(Tag.fresh,zjW n x.2)))):=by
  rw [zoe,zcQ]
  have hm:(ps.map fun x=>(Tag.fresh,zjW n x.2))=((ps.map fun x=>(zbV x.1 x.2,x.2)).map fun x=>(Tag.fresh,zjW n x.2)):=by rw [List.map_map]; rfl
  have hlen:(ps.map fun x=>(zbV x.1 x.2,x.2)).length=ps.length:=by simp
  rw [hm]
  rw [←hlen] at hn
  generalize (ps.map fun x=>(zbV x.1 x.2,x.2))=rs at*
  unfold zhC
  let st:Nat→(Int×List D×List D×Int×Int×PUnit)×PUnit:=fun k=>(((n:Int),pL ((rs.take k).map fun x=>(Tag.fresh,zjW n x.2)),pL rs,((pL rs).length:Int),(k:Int),PUnit.unit),PUnit.unit)
  have hst:st 0=(((n:Int),[],pL rs,((pL rs).length:Int),0,PUnit.unit),PUnit.unit):=rfl
  rw [←hst]
  refine zb6 st rs.length (by omega) ?_ ?_
  · intro again k hk
    dsimp only [st]
    obtain ⟨x,hx⟩:∃ x,rs[k]? =some x:=⟨_,List.getElem?_eq_getElem hk⟩
    have hd:decide ((k:Int) < ((pL rs).length:Int))=true:=by simp; omega
    have hfill:([]++List.take (Int.toNat (n:Int)) (uL x.2)++List.drop ((0:Nat)+List.length (List.take (Int.toNat (n:Int)) (uL x.2))) (List.replicate (Int.toNat (n:Int)) (D.int IntKind.u8 (0:Int))))=uL (zjW n x.2):=by
      rw [Int.toNat_natCast,zv9,zoO,zwa,Nat.zero_add,zdw,List.nil_append,←zzO]; rfl
    rw [hd,za8,zab (by omega),zai (by simpa using zcv hx),zeR,zab (by omega),zab (by rfl),zab (by omega),zab (by omega),zab (by simp),zab (zxk _),hfill,zab (by simp [zhX]),zab (by simp; omega),zab (by rfl),
      zaQ,zaq (by omega) (by omega),zab (by simp),zDI (by simp [zhX]),zAf]
    have:(rs.take (k+1)).map (fun x=>(Tag.fresh,zjW n x.2))=(rs.take k).map (fun x=>(Tag.fresh,zjW n x.2))++[(Tag.fresh,zjW n x.2)]:=by rw [List.take_add_one,hx]; simp
    rw [this]
    rfl
  · intro again
    dsimp only [st]
    have hd:decide ((rs.length:Int) < ((pL rs).length:Int))=false:=by simp
    rw [hd,zay,zab (by rfl),List.take_length,zab (zkD (by intro x hx; obtain ⟨y,hy,rfl⟩:=List.mem_map.1 hx; rfl))]
def fP (ls:List (List Int)):List Part:=ls.map fun l=>(Tag.fresh,l)
@[simp] theorem zAl (ls:List (List Int)):(fP ls).length=ls.length:=by simp [fP]
theorem zoW (ls:List (List Int)):(fP ls).map (·.2)=ls:=by
  unfold fP
  rw [List.map_map]
  exact List.map_id ls
theorem zfz (ls:List (List Int)):(pL (fP ls)).all D.free=true:=zkD (by intro x hx; obtain ⟨y,_,rfl⟩:=List.mem_map.1 hx; rfl)
theorem zEV (ls:List (List Int)) (i:Nat) (l:List Int):(fP ls).set i (Tag.fresh,l)=fP (ls.set i l):=by simp [fP,List.map_set]
theorem zsq {ls:List (List Int)} {k:Nat} {l:List Int} (h:ls[k]? =some l):(fP ls)[k]? =some (Tag.fresh,l):=by simp [fP,h]
theorem zBQ (ps:List Part):(ps.map fun x=>(Tag.fresh,zjW 32 x.2))=fP (zcn (ps.map (·.2))):=by simp [fP,zcn]
theorem zBR (ls:List (List Int)):miss ls=(zc2 ls).map Int.ofNat:=rfl
theorem zyq (k:Nat) (hk:k < 100000):zaS [.int .i64 k]=some (.int .u8 (pow8 (k % 255))):=by
  have h:=zvq (k % 255) (Nat.mod_lt _ (by omega))
  rw [zqN] at h ⊢
  unfold zps at h ⊢
  have e1:Int.tmod (k:Int) 255=((k % 255:Nat):Int):=by rw [Int.tmod_eq_emod_of_nonneg (by omega)]; omega
  have e2:Int.tmod ((k % 255:Nat):Int) 255=((k % 255:Nat):Int):=by rw [Int.tmod_eq_emod_of_nonneg (by omega)]; omega
  rw [e1]
  rw [e2] at h
  exact h
theorem zEW {a:Nat} (ha:a < 256):zen [.int .u8 a]=some (.int .i64 (if logN a=255 then -1 else (logN a:Int))):=by
  rw [zwp]
  unfold ztA
  refine zkU (a:=(((a:Int),(1:Int),(0:Int),PUnit.unit),PUnit.unit)) (fun x=>(255 - x.1.2.2.1).toNat) (fun x=>some (D.int .i64 (if logF a (255 - x.1.2.2.1.toNat) x.1.2.1.toNat x.1.2.2.1.toNat=255 then -1 else (logF a (255 - x.1.2.2.1.toNat) x.1.2.1.toNat x.1.2.2.1.toNat:Int))))
    (fun x=>∃ n y:Nat,n≤255∧y < 256∧x=(((a:Int),(y:Int),(n:Int),PUnit.unit),PUnit.unit)) ?_ ⟨0,1,by omega,by omega,rfl⟩ (by simp)
  rintro again _ ⟨n,y,hn,hy,rfl⟩ hag
  dsimp only
  rw [Int.toNat_natCast,Int.toNat_natCast]
  by_cases h:n < 255
  · have e:255 - n=(255 - (n+1))+1:=by omega
    have hd:decide ((n:Int) < 255)=true:=by simp; omega
    rw [hd,za8,e]
    by_cases hya:y=a
    · subst hya
      have:logF y (255 - (n+1)+1) y n=n:=by unfold logF; rw [if_pos rfl]
      rw [this,if_neg (by omega)]
      simp
    · have hb:((y:Int) == (a:Int))=false:=by simp; omega
      have:logF a (255 - (n+1)+1) y n=logF a (255 - (n+1)) (dblN y) (n+1):=by rw [logF,if_neg hya]
      have hh:=hag (((a:Int),((dblN y:Nat):Int),((n+1:Nat):Int),PUnit.unit),PUnit.unit) ⟨n+1,dblN y,by omega,zjT hy,rfl⟩ (by dsimp only; omega)
      dsimp only at hh
      rw [Int.toNat_natCast,Int.toNat_natCast] at hh
      rw [hb,zay,gf_double,zah,zbH,zaQ,zaq (by omega) (by omega),zv0 hy,this]
      exact hh
  · have:n=255:=by omega
    subst this
    simp [logF]
theorem zCv {a:Int} (ha:Byt a):zcu [.int .u8 a]=some (.int .u8 (inv8 a)):=by
  obtain ⟨m,hm,rfl⟩:=zes ha
  rw [zwq]
  unfold ztB inv8 invN
  rw [Int.toNat_natCast]
  by_cases h0:m=0
  · subst h0; simp
  · obtain ⟨h1,h2⟩:=zDp m hm h0
    have hb:((m:Int) == 0)=false:=by simp; omega
    rw [hb,zay,zEW hm,zah,zbH,if_neg (by omega),if_neg h0,zaQ,zaq (by omega) (by omega),show (255:Int) - (logN m:Int)=((255 - logN m:Nat):Int) by omega,zyq _ (by omega),zah,zbH,zkV]
section
variable {ps:List Part} (h1:0 < ps.length) (h8:ps.length≤8) (hs:∀ x∈ps,x.2.length=32)
include h1 h8 hs
theorem by_q (tq tg:Tag) {q:List Int} (hq:q.length=32) {k:Nat} (hk:k < 8):
    zcj [.sl tq (uL q),.sl tg (pL ps),.int .i64 k]=some (.sl .own (uL (byQ q (ps.map (·.2)) k))):=by
  rw [zro,zcO,zcQ]
  have hm:(ps.map fun x=>(zbV x.1 x.2,x.2)).map (·.2)=ps.map (·.2):=by rw [List.map_map]; rfl
  have hlen:(ps.map fun x=>(zbV x.1 x.2,x.2)).length=ps.length:=by simp
  have hs':∀ x∈(ps.map fun x=>(zbV x.1 x.2,x.2)),x.2.length=32:=by intro x hx; obtain ⟨y,hy,rfl⟩:=List.mem_map.1 hx; exact hs y hy
  rw [←hm]
  rw [←hlen] at h1 h8
  generalize (ps.map fun x=>(zbV x.1 x.2,x.2))=rs at*
  unfold zmu
  have hQ:=zAh (n:=32) .lent (ps:=rs) (by omega) h1 (by omega) hs'
  have hr:Byt (inv8 (pow8 k)):=zxj _
  have ha:(addL q (sumQ 32 (rs.map (·.2)))).length < 100000:=by unfold addL; split<;>simp<;>omega
  simp (disch:=first | omega | assumption | (simp; done) | fail) [-List.all_eq_true,hQ,zhr _ _ _ _ (show q.length < 100000 by omega),zvq k (by omega),zCv (zxf k),zik _ _ ha hr.1 hr.2]
  rfl
theorem zEX (tp tq tg:Tag) {p q:List Int} (hp:p.length=32) (hq:q.length=32) {j k:Nat} (hj:j < 8) (hk:k < 8):
    zcz [.sl tp (uL p),.sl tq (uL q),.sl tg (pL ps),.int .i64 j,.int .i64 k]=some (.tup [.sl .own (uL (twoX p q (ps.map (·.2)) j k)),.sl .own (uL (twoY p q (ps.map (·.2)) j k))]):=by
  rw [zrm,zcO,zcO,zcQ]
  have hm:(ps.map fun x=>(zbV x.1 x.2,x.2)).map (·.2)=ps.map (·.2):=by rw [List.map_map]; rfl
  have hlen:(ps.map fun x=>(zbV x.1 x.2,x.2)).length=ps.length:=by simp
  have hs':∀ x∈(ps.map fun x=>(zbV x.1 x.2,x.2)),x.2.length=32:=by intro x hx; obtain ⟨y,hy,rfl⟩:=List.mem_map.1 hx; exact hs y hy
  rw [←hm]
  rw [←hlen] at h1 h8
  generalize (ps.map fun x=>(zbV x.1 x.2,x.2))=rs at*
  unfold zmt
  have hQ:=zAh (n:=32) .lent (ps:=rs) (by omega) h1 (by omega) hs'
  have hP:=zAg (n:=32) .lent (ps:=rs) (by omega) h1 (by omega) hs'
  have hr:Byt (inv8 (xor8 (pow8 j) (pow8 k))):=zxj _
  have addl:∀ {a b:List Int},a.length≤32→(addL a b).length≤32:=by intro a b h; unfold addL; split<;>simp<;>omega
  have h2:(addL p (sumP 32 (rs.map (·.2)))).length≤32:=addl (by omega)
  have h3:(addL q (sumQ 32 (rs.map (·.2)))).length≤32:=addl (by omega)
  have h4:(addL (addL q (sumQ 32 (rs.map (·.2)))) ((addL p (sumP 32 (rs.map (·.2)))).map (mul8 · (pow8 k)))).length≤32:=addl h3
  simp (disch:=first | omega | assumption | (simp; done) | fail) [-List.all_eq_true,hQ,hP,zhr _ _ _ _ (show q.length < 100000 by omega),zhr _ _ _ _ (show p.length < 100000 by omega),zvq j (by omega),zvq k (by omega),zCv (zm1 _ _),
    zik _ _ (show (addL p (sumP 32 (rs.map (·.2)))).length < 100000 by omega) (zhW k).1 (zhW k).2,zhr _ _ _ _ (show (addL q (sumQ 32 (rs.map (·.2)))).length < 100000 by omega),zhr _ _ _ _ (show (addL p (sumP 32 (rs.map (·.2)))).length < 100000 by omega),
    zik _ _ (show (addL (addL q (sumQ 32 (rs.map (·.2)))) ((addL p (sumP 32 (rs.map (·.2)))).map (mul8 · (pow8 k)))).length < 100000 by omega) hr.1 hr.2]
  exact ⟨rfl,rfl⟩
end
end Wf

namespace Wf
open Go Go.RowKit Go.Proofs
set_option linter.unusedSimpArgs false
set_option linter.unusedVariables false
set_option maxHeartbeats 4000000
def solD:Option (List (List Int))→D
  | none=>.tup [.sl .own [],.bool false]
  | some o=>.tup [.sl .own (pL (fP o)),.bool true]
theorem pLs (ls:List (List Int)) (i:Nat) (l:List Int):(pL (fP ls)).set i (.sl .fresh (uL l))=pL (fP (ls.set i l)):=by rw [zoV,zEV]
theorem zwx {ls:List (List Int)} {i:Nat} (h:i < ls.length):(pL (fP ls))[i]? =some (.sl .fresh (uL (ls.getD i []))):=by
  have e:ls[i]? =some (ls.getD i []):=by rw [List.getD_eq_getElem?_getD,List.getElem?_eq_getElem h]; rfl
  exact zcv (zsq e)
theorem zBS (tp tq tg:Tag) (p q:List Int) {ps:List Part} (hn:ps.length < 100000):
    zbX [.int .i64 32,.sl tp (uL p),.sl tq (uL q),.sl tg (pL ps)]=some (solD (zqm p q (ps.map (·.2)))):=by
  rw [zpd,zcO,zcO,zcQ]
  have hm:(ps.map fun x=>(zbV x.1 x.2,x.2)).map (·.2)=ps.map (·.2):=by rw [List.map_map]; rfl
  have hlen:(ps.map fun x=>(zbV x.1 x.2,x.2)).length=ps.length:=by simp
  rw [←hm]
  rw [←hlen] at hn
  generalize (ps.map fun x=>(zbV x.1 x.2,x.2))=rs at*
  clear hm hlen ps
  unfold ziR zqm
  have hmi:=znE .lent rs hn
  rw [zBR] at hmi
  have hpq:zbC [.sl .full [.sl .lent (uL p),.sl .lent (uL q)]]=some (.sl .own (intL ((zc2 [p,q]).map Int.ofNat))):=znE .full [(Tag.lent,p),(Tag.lent,q)] (by simp)
  have hfi:=erase_fits .lent rs hn 32
  have hfa:(rs.all fun x=>fitS 32 x.2)=(rs.map (·.2)).all (fitS 32):=by rw [List.all_map]; rfl
  rw [hfa] at hfi
  have hfpq:zb1 [.int .i64 32,.sl .full [.sl .lent (uL p),.sl .lent (uL q)]]=some (.bool ([p,q].all (fitS 32))):=erase_fits .full [(Tag.lent,p),(Tag.lent,q)] (by simp) 32
  have hfl:zbK [.int .i64 32,.sl .lent (pL rs)]=some (.sl .own (pL (fP (zcn (rs.map (·.2)))))):=by
    have:=erase_filled 32 (by omega) .lent rs hn
    rw [zBQ] at this
    exact this
  have hl:(rs.map (·.2)).length=rs.length:=by simp
  generalize hls:rs.map (·.2)=ls at*
  have hfill:(zcn ls).length=rs.length:=by rw [zdK,hl]
  by_cases c1:rs.length < 1
  · rw [if_pos (.inl (by omega))]
    simp (disch:=first | omega | assumption | (simp; done) | fail) [-List.all_eq_true,hmi,c1,solD]
  by_cases c2:8 < rs.length
  · rw [if_pos (.inr (.inl (by omega)))]
    simp (disch:=first | omega | assumption | (simp; done) | fail) [-List.all_eq_true,hmi,c1,c2,solD]
  cases c3:ls.all (fitS 32)
  · rw [if_pos (.inr (.inr (.inl rfl)))]
    simp (disch:=first | omega | assumption | (simp; done) | fail) [-List.all_eq_true,hmi,c1,c2,hfi,c3,solD]
  cases c4:[p,q].all (fitS 32)
  · rw [if_pos (.inr (.inr (.inr rfl)))]
    simp (disch:=first | omega | assumption | (simp; done) | fail) [-List.all_eq_true,-List.all_cons,hmi,c1,c2,hfi,c3,hfpq,c4,solD]
  rw [if_neg (by rintro (e | e | e | e)<;>first | omega | cases e)]
  have hml:(zc2 ls).length≤8:=by
    have:(zc2 ls).length≤ls.length:=by unfold zc2; exact Nat.le_trans (List.length_filter_le _ _) (by simp)
    omega
  have hml2:=zv8 p q
  have hml3:(zc2 [p,q]).length≤2:=by rw [hml2]; split<;>split<;>omega
  by_cases c5:2 < (zc2 ls).length+(zc2 [p,q]).length
  · rw [if_pos c5]
    simp (disch:=first | omega | assumption | (simp; done) | fail) [-List.all_eq_true,-List.all_cons,hmi,c1,c2,hfi,c3,hfpq,c4,hpq,zfB,zaq,solD]
  rw [if_neg c5]
  rcases hmm:zc2 ls with _ | ⟨j,_ | ⟨k,_ | ⟨m,t⟩⟩⟩
  · rw [hmm] at c5 hmi
    simp (disch:=first | omega | assumption | (simp; done) | fail) [-List.all_eq_true,-List.all_cons,hmi,c1,c2,hfi,c3,hfpq,c4,hpq,zfB,zaq,solD,hfl,zfz]
  · have hj:=zd0.1 (show j∈zc2 ls by rw [hmm]; simp)
    rw [hmm] at c5 hmi
    have hi1:intL [(j:Int)]=[.int .i64 j]:=rfl
    have c6:¬ 2 < 1+((zc2 [p,q]).length:Int):=by simp at c5; omega
    have hg:=zwx (ls:=zcn ls) (i:=j) (by omega)
    dsimp only
    by_cases hp:0 < p.length
    · rw [if_pos hp]
      have hP:=zAg (n:=32) .lent (ps:=fP (zcn ls)) (by omega) (by simp; omega) (by simp; omega) (by intro x hx; obtain ⟨l,hl,rfl⟩:=List.mem_map.1 hx; unfold zcn at hl; obtain ⟨y,_,rfl⟩:=List.mem_map.1 hl; exact zhX 32 y)
      rw [zoW] at hP
      have hpl:p.length=32:=by
        simp [fitS] at c4
        rcases c4.1 with e | e
        · rw [e] at hp; cases hp
        · omega
      simp (disch:=first | omega | assumption | (simp; done) | fail) [-List.all_eq_true,-List.all_cons,hmi,c1,c2,hfi,c3,hfpq,c4,hpq,zfB,hi1,zaq,solD,hfl,hP,hp,zhr,zai hg,pLs,zfz,hfill,c6,D.isAgg]
    · rw [if_neg hp]
      have hq:q.length=32:=by
        have hp0:p=[]:=by cases p; rfl; simp at hp
        have hq0:¬ q=[]:=by intro e; rw [hml2,if_pos hp0,if_pos e] at c5; simp at c5
        simp [fitS] at c4
        rcases c4.2 with e | e
        · exact absurd e hq0
        · omega
      have hQ:=by_q (ps:=fP (zcn ls)) (by simp; omega) (by simp; omega) (by intro x hx; obtain ⟨l,hl,rfl⟩:=List.mem_map.1 hx; unfold zcn at hl; obtain ⟨y,_,rfl⟩:=List.mem_map.1 hl; exact zhX 32 y) .lent .lent hq (k:=j) (by omega)
      rw [zoW] at hQ
      simp (disch:=first | omega | assumption | (simp; done) | fail) [-List.all_eq_true,-List.all_cons,hmi,c1,c2,hfi,c3,hfpq,c4,hpq,zfB,hi1,zaq,solD,hfl,hQ,hp,zai hg,pLs,zfz,hfill,c6,D.isAgg]
  · have hj:=zd0.1 (show j∈zc2 ls by rw [hmm]; simp)
    have hk:=zd0.1 (show k∈zc2 ls by rw [hmm]; simp)
    have hjk:j < k:=by have:=zl4 ls; rw [hmm] at this; simpa using this
    rw [hmm] at c5 hmi
    have hi1:intL [(j:Int),(k:Int)]=[.int .i64 j,.int .i64 k]:=rfl
    have c6:¬ 2 < 2+((zc2 [p,q]).length:Int):=by simp at c5; simp [c5]
    have hp0:¬ p=[]:=by intro e; rw [hml2,if_pos e] at c5; simp at c5
    have hq0:¬ q=[]:=by intro e; rw [hml2,if_pos e] at c5; simp at c5
    have hpl:p.length=32∧q.length=32:=by
      simp [fitS] at c4
      exact ⟨by rcases c4.1 with e | e; exact absurd e hp0; omega,by rcases c4.2 with e | e; exact absurd e hq0; omega⟩
    have hT:=zEX (ps:=fP (zcn ls)) (by simp; omega) (by simp; omega) (by intro x hx; obtain ⟨l,hl,rfl⟩:=List.mem_map.1 hx; unfold zcn at hl; obtain ⟨y,_,rfl⟩:=List.mem_map.1 hl; exact zhX 32 y) .lent .lent .lent hpl.1 hpl.2 (j:=j) (k:=k) (by omega) (by omega)
    rw [zoW] at hT
    have hg:=zwx (ls:=zcn ls) (i:=j) (by omega)
    have hg2:=zwx (ls:=(zcn ls).set j (twoX p q (zcn ls) j k)) (i:=k) (by simp; omega)
    dsimp only
    simp (disch:=first | omega | assumption | (simp; done) | fail) [-List.all_eq_true,-List.all_cons,hmi,c1,c2,hfi,c3,hfpq,c4,hpq,zfB,hi1,zaq,solD,hfl,hT,zai hg,zai hg2,pLs,zfz,hfill,c6,D.isAgg]
  · rw [hmm] at c5; simp at c5; omega
end Wf

namespace Wf
open Go Go.RowKit Go.Proofs
set_option linter.unusedSimpArgs false
set_option linter.unusedVariables false
def zot (b:Int) (k:Nat) (s:Int×Int):Int×Int:=
  (if IntKind.i64.wrap (s.1*2) > 255 then bits .xor .i64 (IntKind.i64.wrap (s.1*2)) 285 else IntKind.i64.wrap (s.1*2),
   if bits .and .u8 (b.fdiv (2 ^ min k 8)) 1=1 then bits .xor .i64 s.2 s.1 else s.2)
def zeh (a b:Int):Nat→Int×Int
  | 0=>(IntKind.i64.wrap a,0)
  | k+1=>zot b k (zeh a b k)
def zeJ (a b:Int):Int:=IntKind.u8.wrap (zeh a b 8).2
theorem zAm (a b:Int):zaN [.int .u8 a,.int .u8 b]=some (.int .u8 (zeJ a b)):=by
  rw [zlh]
  unfold zfp
  rw [zaQ]
  refine zb6 (fun k=>((b,(zeh a b k).1,(zeh a b k).2,(k:Int),PUnit.unit),PUnit.unit)) 8 (by omega) ?_ ?_
  · intro again k hk
    dsimp only
    have hd:decide ((k:Int) < 8)=true:=by simp; omega
    rw [hd,za8,zaQ,zBi (by omega) (by omega),zab (by omega),zaQ,zaQ,Int.toNat_natCast]
    have hs:zeh a b (k+1)=zot b k (zeh a b k):=rfl
    have hk1:IntKind.i64.wrap ((k:Int)+1)=((k+1:Nat):Int):=by rw [zaq (by omega) (by omega)]; rfl
    rw [hs]
    unfold zot
    by_cases hb:bits .and .u8 (b.fdiv (2 ^ min k 8)) 1=1
    · have hb':(bits .and .u8 (b.fdiv (2 ^ min k 8)) 1 == 1)=true:=by simp [hb]
      rw [hb',za8,zaQ,zaQ,if_pos hb]
      by_cases hx:IntKind.i64.wrap ((zeh a b k).1*2) > 255
      · have hx':decide (IntKind.i64.wrap ((zeh a b k).1*2) > 255)=true:=by simp [hx]
        rw [hx',za8,zaQ,zaQ,hk1,if_pos hx]
      · have hx':decide (IntKind.i64.wrap ((zeh a b k).1*2) > 255)=false:=by simp; omega
        rw [hx',zay,zaQ,hk1,if_neg hx]
    · have hb':(bits .and .u8 (b.fdiv (2 ^ min k 8)) 1 == 1)=false:=by simp [hb]
      rw [hb',zay,zaQ,if_neg hb]
      by_cases hx:IntKind.i64.wrap ((zeh a b k).1*2) > 255
      · have hx':decide (IntKind.i64.wrap ((zeh a b k).1*2) > 255)=true:=by simp [hx]
        rw [hx',za8,zaQ,zaQ,hk1,if_pos hx]
      · have hx':decide (IntKind.i64.wrap ((zeh a b k).1*2) > 255)=false:=by simp; omega
        rw [hx',zay,zaQ,hk1,if_neg hx]
  · intro again
    dsimp only
    have hd:decide (((8:Nat):Int) < 8)=false:=by simp
    rw [hd,zay,zaQ]
    rfl
def zdS:Nat→Int
  | 0=>1
  | k+1=>zeJ (zdS k) 2
theorem zDJ (k:Nat) (hk:k < 255):zbv [.int .i64 k]=some (.int .u8 (zdS k)):=by
  rw [zlj]
  unfold zfq
  have e1:Int.tmod (k:Int) 255=k:=by rw [Int.tmod_eq_emod_of_nonneg (by omega),Int.emod_eq_of_lt (by omega) (by omega)]
  have hd:decide ((k:Int) < 0)=false:=by simp
  rw [zaQ,e1,hd,zay]
  let st:Nat→(Int×Int×PUnit)×PUnit:=fun j=>(((k:Int) - (j:Int),zdS j,PUnit.unit),PUnit.unit)
  have hst:st 0=(((k:Int),1,PUnit.unit),PUnit.unit):=by simp [st,zdS]
  rw [←hst]
  refine zb6 st k (by omega) ?_ ?_
  · intro again j hj
    dsimp only [st]
    have hd:decide ((k:Int) - (j:Int) > 0)=true:=by simp; omega
    rw [hd,za8,zAm,zah,zbH,zaQ,zaq (by omega) (by omega)]
    have:(k:Int) - (j:Int) - 1=(k:Int) - ((j+1:Nat):Int):=by omega
    rw [this]
    rfl
  · intro again
    dsimp only [st]
    have hd:decide ((k:Int) - (k:Int) > 0)=false:=by simp
    rw [hd,zay]
def mixL (f:Int→Int→Int) (acc p:List Int) (j:Nat):List Int:=(List.zipWith f acc p).take j++acc.drop j
theorem zxv {f:Int→Int→Int} {acc p:List Int} (h:p.length=acc.length) {j:Nat} (hj:j≤acc.length):(mixL f acc p j).length=acc.length:=by
  unfold mixL; simp [h]; omega
theorem zxw {f:Int→Int→Int} {acc p:List Int} (h:p.length=acc.length) {j:Nat} (hj:j < acc.length):(mixL f acc p j)[j]? =some acc[j]:=by
  unfold mixL
  rw [List.getElem?_append_right (by simp; omega)]
  simp [h]
  rw [show j - min j acc.length=0 by omega]
  simp [hj]
theorem zxx {f:Int→Int→Int} {acc p:List Int} (h:p.length=acc.length) {j:Nat} (hj:j < acc.length):(mixL f acc p j).set j (f acc[j] (p[j]'(by omega)))=mixL f acc p (j+1):=by
  unfold mixL
  have hl:((List.zipWith f acc p).take j).length=j:=by simp [h]; omega
  rw [List.set_append_right _ _ (by omega),hl,Nat.sub_self,List.take_add_one,List.drop_eq_getElem_cons hj,List.set_cons_zero]
  simp [List.getElem?_zipWith,hj,h]
theorem zxy {f:Int→Int→Int} {acc p:List Int} (h:p.length=acc.length):mixL f acc p acc.length=List.zipWith f acc p:=by
  unfold mixL
  rw [List.drop_of_length_le (Nat.le_refl _),List.append_nil,List.take_of_length_le (by simp; omega)]
theorem zvr (f:Int→Int→Int) (acc p:List Int):mixL f acc p 0=acc:=by simp [mixL]
def sumR (F:Nat→Int→Int) (n:Nat) (ls:List (List Int)):Nat→List Int
  | 0=>List.replicate n 0
  | k+1=>List.zipWith (fun a x=>xor8 a (F k x)) (sumR F n ls k) (ls.getD k [])
theorem ztP {F:Nat→Int→Int} {n:Nat} {ls:List (List Int)} (h:∀ l∈ls,l.length=n):∀ {k:Nat},k≤ls.length→(sumR F n ls k).length=n
  | 0,_=>by simp [sumR]
  | k+1,hk=>by
    have e:ls.getD k []=ls[k]:=by simp [List.getD_eq_getElem?_getD,List.getElem?_eq_getElem (show k < ls.length by omega)]
    simp only [sumR,List.length_zipWith,e,ztP h (show k≤ls.length by omega),h _ (List.getElem_mem (show k < ls.length by omega))]
    omega
def refP (n:Nat) (ls:List (List Int)):List Int:=sumR (fun _ x=>x) n ls ls.length
def refQ (n:Nat) (ls:List (List Int)):List Int:=sumR (fun k x=>zeJ x (zdS k)) n ls ls.length
theorem zvs (tg:Tag) {ps:List Part} {n:Nat} (h0:0 < ps.length) (h1:ps.length < 100000) (h:∀ x∈ps,x.2.length=n):zaG [.sl tg (pL ps)]=some (.bool true):=by
  rw [zjk,zcQ]
  have hlen:(ps.map fun x=>(zbV x.1 x.2,x.2)).length=ps.length:=by simp
  have hl':∀ x∈(ps.map fun x=>(zbV x.1 x.2,x.2)),x.2.length=n:=by intro x hx; obtain ⟨y,hy,rfl⟩:=List.mem_map.1 hx; exact h y hy
  rw [←hlen] at h0 h1
  generalize (ps.map fun x=>(zbV x.1 x.2,x.2))=rs at*
  unfold zex
  obtain ⟨x0,hx0⟩:∃ x,rs[0]? =some x:=⟨_,List.getElem?_eq_getElem h0⟩
  refine zb6 (fun k=>((pL rs,pL rs,((pL rs).length:Int),(k:Int),PUnit.unit),PUnit.unit)) rs.length h1 ?_ ?_
  · intro again k hk
    dsimp only
    obtain ⟨x,hx⟩:∃ x,rs[k]? =some x:=⟨_,List.getElem?_eq_getElem hk⟩
    have hd:decide ((k:Int) < ((pL rs).length:Int))=true:=by simp; omega
    have hb:(((uL x.2).length:Int) != ((uL x0.2).length:Int))=false:=by simp [hl' x (List.mem_of_getElem? hx),hl' x0 (List.mem_of_getElem? hx0)]
    rw [hd,za8,zab (by omega),zai (by simpa using zcv hx),zeR,zai (zcv hx0),zeR,hb,zay,zaQ,zaq (by omega) (by omega)]
    rfl
  · intro again
    have hd:decide ((rs.length:Int) < ((pL rs).length:Int))=false:=by simp
    have hd2:decide (((pL rs).length:Int) > 0)=true:=by simp; omega
    dsimp only
    rw [hd,zay,hd2]
theorem zFG (tg:Tag) {ps:List Part} {n:Nat} (hn:n < 100000) (h0:0 < ps.length) (h1:ps.length < 100000) (h:∀ x∈ps,x.2.length=n):zbI [.sl tg (pL ps)]=some (.sl .own (uL (refP n (ps.map (·.2))))):=by
  rw [znb,zcQ]
  have hlen:(ps.map fun x=>(zbV x.1 x.2,x.2)).length=ps.length:=by simp
  have hm:(ps.map fun x=>(zbV x.1 x.2,x.2)).map (·.2)=ps.map (·.2):=by rw [List.map_map]; rfl
  have hl':∀ x∈(ps.map fun x=>(zbV x.1 x.2,x.2)),x.2.length=n:=by intro x hx; obtain ⟨y,hy,rfl⟩:=List.mem_map.1 hx; exact h y hy
  rw [←hlen] at h0 h1
  rw [←hm]
  generalize (ps.map fun x=>(zbV x.1 x.2,x.2))=rs at*
  clear hm hlen h ps
  unfold zgM
  obtain ⟨x0,hx0⟩:∃ x,rs[0]? =some x:=⟨_,List.getElem?_eq_getElem h0⟩
  have hls:∀ l∈rs.map (·.2),l.length=n:=by intro l hl; obtain ⟨y,hy,rfl⟩:=List.mem_map.1 hl; exact hl' y hy
  rw [zvs .lent h0 h1 hl',zah,zcY,Bool.not_true,zay,zai (zcv hx0),zeR,zab (by rfl),zdw,hl' x0 (List.mem_of_getElem? hx0),zab (by omega),zab (by omega),zab (by simp),Int.toNat_natCast,zoO]
  let st:Nat→(List D×List D×Int×Int×PUnit)×PUnit:=fun k=>((uL (sumR (fun _ x=>x) n (rs.map (·.2)) k),pL rs,((pL rs).length:Int),(k:Int),PUnit.unit),PUnit.unit)
  have hst:st 0=((uL (List.replicate n 0),pL rs,((pL rs).length:Int),0,PUnit.unit),PUnit.unit):=rfl
  rw [←hst]
  refine zb6 st rs.length h1 ?_ ?_
  · intro again k hk
    dsimp only [st]
    obtain ⟨x,hx⟩:∃ x,rs[k]? =some x:=⟨_,List.getElem?_eq_getElem hk⟩
    have hxl:=hl' x (List.mem_of_getElem? hx)
    have hd:decide ((k:Int) < ((pL rs).length:Int))=true:=by simp; omega
    have hsl:=ztP (F:=fun _ x=>x) hls (k:=k) (by simp; omega)
    have hxe:x.2.length=(sumR (fun _ x=>x) n (rs.map (·.2)) k).length:=by omega
    rw [hd,za8,zab (by omega),zai (by simpa using zcv hx),zeR,zab (by rfl)]
    let s2:Nat→(List D×List D×Int×Int×(Tag×List D)×Int×Int×PUnit)×PUnit:=fun j=>((uL (mixL (fun a x=>xor8 a x) (sumR (fun _ x=>x) n (rs.map (·.2)) k) x.2 j),pL rs,((pL rs).length:Int),(k:Int),(x.1,uL x.2),((uL x.2).length:Int),(j:Int),PUnit.unit),PUnit.unit)
    have hs2:s2 0=((uL (sumR (fun _ x=>x) n (rs.map (·.2)) k),pL rs,((pL rs).length:Int),(k:Int),(x.1,uL x.2),((uL x.2).length:Int),0,PUnit.unit),PUnit.unit):=by simp only [s2,zvr]; rfl
    rw [←hs2]
    refine zb6 s2 x.2.length (by omega) ?_ ?_
    · intro again2 j hj
      dsimp only [s2]
      have hd:decide ((j:Int) < ((uL x.2).length:Int))=true:=by simp; omega
      have g1:x.2[j]? =some x.2[j]:=List.getElem?_eq_getElem hj
      have g2:=zxw (f:=fun a x=>xor8 a x) hxe (j:=j) (by omega)
      have ml:=zxv (f:=fun a x=>xor8 a x) hxe (j:=j) (by omega)
      have ms:=zxx (f:=fun a x=>xor8 a x) hxe (j:=j) (by omega)
      rw [hd,za8,zab (by omega),zai (by simpa using zi3 g1),zbH,zab (by omega),zab (by rw [zdw,ml]; omega),zai (by simpa using zi3 g2),zbH,zaQ,zab (by omega),zab (by rw [zdw,ml]; omega),zai (by simpa using zi3 g2),zab (by rfl),zaQ,
        zaq (by omega) (by omega),zab (by simp),Nat.zero_add,zzQ,show Int.toNat (j:Int)=j from rfl,ms]
      rfl
    · intro again2
      dsimp only [s2]
      have hd:decide ((x.2.length:Int) < ((uL x.2).length:Int))=false:=by simp
      have me:mixL (fun a x=>xor8 a x) (sumR (fun _ x=>x) n (rs.map (·.2)) k) x.2 x.2.length=sumR (fun _ x=>x) n (rs.map (·.2)) (k+1):=by
        rw [hxe,zxy hxe]
        have:(rs.map (·.2)).getD k []=x.2:=by simp [List.getD_eq_getElem?_getD,hx]
        simp only [sumR,this]
      rw [hd,zay,zaQ,zaq (by omega) (by omega),zab (by rfl),me]
      rfl
  · intro again
    dsimp only [st]
    have hd:decide ((rs.length:Int) < ((pL rs).length:Int))=false:=by simp
    rw [hd,zay,zab (by rfl),zab (zgH _)]
    simp [refP]
theorem zFH (tg:Tag) {ps:List Part} {n:Nat} (hn:n < 100000) (h0:0 < ps.length) (h1:ps.length < 255) (h:∀ x∈ps,x.2.length=n):zbJ [.sl tg (pL ps)]=some (.sl .own (uL (refQ n (ps.map (·.2))))):=by
  rw [znd,zcQ]
  have hlen:(ps.map fun x=>(zbV x.1 x.2,x.2)).length=ps.length:=by simp
  have hm:(ps.map fun x=>(zbV x.1 x.2,x.2)).map (·.2)=ps.map (·.2):=by rw [List.map_map]; rfl
  have hl':∀ x∈(ps.map fun x=>(zbV x.1 x.2,x.2)),x.2.length=n:=by intro x hx; obtain ⟨y,hy,rfl⟩:=List.mem_map.1 hx; exact h y hy
  rw [←hlen] at h0 h1
  rw [←hm]
  generalize (ps.map fun x=>(zbV x.1 x.2,x.2))=rs at*
  clear hm hlen h ps
  unfold zgP
  obtain ⟨x0,hx0⟩:∃ x,rs[0]? =some x:=⟨_,List.getElem?_eq_getElem h0⟩
  have hls:∀ l∈rs.map (·.2),l.length=n:=by intro l hl; obtain ⟨y,hy,rfl⟩:=List.mem_map.1 hl; exact hl' y hy
  rw [zvs .lent h0 (by omega) hl',zah,zcY,Bool.not_true,zay,zai (zcv hx0),zeR,zab (by rfl),zdw,hl' x0 (List.mem_of_getElem? hx0),zab (by omega),zab (by omega),zab (by simp),Int.toNat_natCast,zoO]
  let st:Nat→(List D×List D×Int×Int×PUnit)×PUnit:=fun k=>((uL (sumR (fun k x=>zeJ x (zdS k)) n (rs.map (·.2)) k),pL rs,((pL rs).length:Int),(k:Int),PUnit.unit),PUnit.unit)
  have hst:st 0=((uL (List.replicate n 0),pL rs,((pL rs).length:Int),0,PUnit.unit),PUnit.unit):=rfl
  rw [←hst]
  refine zb6 st rs.length (by omega) ?_ ?_
  · intro again k hk
    dsimp only [st]
    obtain ⟨x,hx⟩:∃ x,rs[k]? =some x:=⟨_,List.getElem?_eq_getElem hk⟩
    have hxl:=hl' x (List.mem_of_getElem? hx)
    have hd:decide ((k:Int) < ((pL rs).length:Int))=true:=by simp; omega
    have hsl:=ztP (F:=fun k x=>zeJ x (zdS k)) hls (k:=k) (by simp; omega)
    have hxe:x.2.length=(sumR (fun k x=>zeJ x (zdS k)) n (rs.map (·.2)) k).length:=by omega
    rw [hd,za8,zab (by omega),zai (by simpa using zcv hx),zeR,zDJ k (by omega),zah,zbH,zab (by rfl)]
    let s2:Nat→(List D×Int×List D×Int×Int×(Tag×List D)×Int×Int×PUnit)×PUnit:=fun j=>((uL (mixL (fun a x=>xor8 a (zeJ x (zdS k))) (sumR (fun k x=>zeJ x (zdS k)) n (rs.map (·.2)) k) x.2 j),zdS k,pL rs,((pL rs).length:Int),(k:Int),(x.1,uL x.2),((uL x.2).length:Int),(j:Int),PUnit.unit),PUnit.unit)
    have hs2:s2 0=((uL (sumR (fun k x=>zeJ x (zdS k)) n (rs.map (·.2)) k),zdS k,pL rs,((pL rs).length:Int),(k:Int),(x.1,uL x.2),((uL x.2).length:Int),0,PUnit.unit),PUnit.unit):=by simp only [s2,zvr]; rfl
    rw [←hs2]
    refine zb6 s2 x.2.length (by omega) ?_ ?_
    · intro again2 j hj
      dsimp only [s2]
      have hd:decide ((j:Int) < ((uL x.2).length:Int))=true:=by simp; omega
      have g1:x.2[j]? =some x.2[j]:=List.getElem?_eq_getElem hj
      have g2:=zxw (f:=fun a x=>xor8 a (zeJ x (zdS k))) hxe (j:=j) (by omega)
      have ml:=zxv (f:=fun a x=>xor8 a (zeJ x (zdS k))) hxe (j:=j) (by omega)
      have ms:=zxx (f:=fun a x=>xor8 a (zeJ x (zdS k))) hxe (j:=j) (by omega)
      rw [hd,za8,zab (by omega),zai (by simpa using zi3 g1),zbH,zab (by omega),zab (by rw [zdw,ml]; omega),zai (by simpa using zi3 g2),zbH,zAm,zah,zbH,zaQ,zab (by omega),zab (by rw [zdw,ml]; omega),zai (by simpa using zi3 g2),zab (by rfl),zaQ,
        zaq (by omega) (by omega),zab (by simp),Nat.zero_add,zzQ,show Int.toNat (j:Int)=j from rfl,ms]
      rfl
    · intro again2
      dsimp only [s2]
      have hd:decide ((x.2.length:Int) < ((uL x.2).length:Int))=false:=by simp
      have me:mixL (fun a x=>xor8 a (zeJ x (zdS k))) (sumR (fun k x=>zeJ x (zdS k)) n (rs.map (·.2)) k) x.2 x.2.length=sumR (fun k x=>zeJ x (zdS k)) n (rs.map (·.2)) (k+1):=by
        rw [hxe,zxy hxe]
        have:(rs.map (·.2)).getD k []=x.2:=by simp [List.getD_eq_getElem?_getD,hx]
        simp only [sumR,this]
      rw [hd,zay,zaQ,zaq (by omega) (by omega),zab (by rfl),me]
      rfl
  · intro again
    dsimp only [st]
    have hd:decide ((rs.length:Int) < ((pL rs).length:Int))=false:=by simp
    rw [hd,zay,zab (by rfl),zab (zgH _)]
    simp [refQ]
def zlO (n:Int) (i:Nat):Int:=IntKind.u8.wrap (IntKind.i64.wrap (n+IntKind.i64.wrap ((i:Int)*bits .or .i64 (IntKind.i64.wrap (n.tdiv 7)) 1)))
def secN (n:Int):List Int:=if n % 11=10 then List.replicate 32 0 else (List.range 32).map (zlO n)
theorem zBT (n:Int):Sec (secN n):=by
  unfold secN
  split
  · exact zm4
  · refine ⟨by simp,fun x h=>?_⟩
    obtain ⟨i,_,rfl⟩:=List.mem_map.1 h
    exact zqk _
theorem zqX (n:Int):za5 [.int .i64 n]=some (.sl .own (uL (secN n))):=by
  rw [zjh]
  unfold zew
  rw [zkC n 11 (by omega) (by omega),zah,zbH]
  unfold secN
  by_cases h:n % 11=10
  · rw [if_pos h]; simp [h]; rfl
  · rw [if_neg h]
    have hb:(n % 11 == 10)=false:=by simp [h]
    rw [hb,zay]
    have:=zb6 (R:=D) (α:=(Int×List D×Int×Int×PUnit)×PUnit)
      (fun k=>((n,uL ((List.range 32).map fun i=>if i < k then zlO n i else 0),32,(k:Int),PUnit.unit),PUnit.unit)) 32 (by omega)
      (B:=?B) (r:=some (.sl .own (uL ((List.range 32).map (zlO n))))) ?_ ?_
    · exact this
    · intro again k hk
      dsimp only
      have hd:decide ((k:Int) < 32)=true:=by simp; omega
      have hg:((List.range 32).map fun i=>if i < k then zlO n i else 0)[k]? =some 0:=by simp [hk]
      have hv:zlO n k=IntKind.u8.wrap (IntKind.i64.wrap (n+IntKind.i64.wrap ((k:Int)*bits .or .i64 (IntKind.i64.wrap (n.tdiv 7)) 1))):=rfl
      rw [hd,za8,zaQ,zaQ,zaQ,zaQ,zaQ,←hv,zab (by omega),zab (by simp; omega),zai (by simpa using zi3 hg)]
      rw [zab (by rfl),zaQ,zaq (n:=(k:Int)+1) (by omega) (by omega),zab (by simp)]
      have:(uL ((List.range 32).map fun i=>if i < k then zlO n i else 0)).set (0+Int.toNat (k:Int)) (.int .u8 (zlO n k))=uL ((List.range 32).map fun i=>if i < k+1 then zlO n i else 0):=by
        rw [zzQ]
        congr 1
        apply List.ext_getElem?
        intro j
        rw [List.getElem?_set]
        by_cases hj:j < 32
        · by_cases hjk:k=j
          · subst hjk; simp [hj]
          · have:(0+Int.toNat (k:Int))≠j:=by simp; exact hjk
            rw [if_neg this]
            simp [hj]
            by_cases h1:j < k
            · rw [if_pos h1,if_pos (by omega)]
            · rw [if_neg h1,if_neg (by omega)]
        · simp [hj]
          omega
      rw [this]
      rfl
    · intro again
      have e:((List.range 32).map fun i=>if i < 32 then zlO n i else 0)=(List.range 32).map (zlO n):=by
        apply List.map_congr_left; intro i hi; rw [if_pos (List.mem_range.1 hi)]
      dsimp only
      rw [e]
      simp
def secL (l:List Int) (n:Nat):List (List Int):=(List.range n).map fun (i:Nat)=>secN (l.getD i (3*(i:Int)))
theorem ztQ (l:List Int) (n:Nat):∀ x∈secL l n,Sec x:=by
  intro x hx; obtain ⟨i,_,rfl⟩:=List.mem_map.1 hx; exact zBT _
@[simp] theorem zBU (l:List Int) (n:Nat):(secL l n).length=n:=by simp [secL]
theorem zDK (ls:List (List Int)) (l:List Int):pL (fP ls)++[.sl .fresh (uL l)]=pL (fP (ls++[l])):=by simp [pL,fP]
theorem zkE (tg:Tag) (l:List Int) {n:Nat} (hn:n < 100000):zak [.sl tg (intL l),.int .i64 n]=some (.sl .own (pL (fP (secL l n)))):=by
  rw [ziF,zjS]
  unfold zd6
  let st:Nat→(List D×Int×List D×Int×PUnit)×PUnit:=fun k=>((intL l,(n:Int),pL (fP (secL l k)),(k:Int),PUnit.unit),PUnit.unit)
  show zce _ (st 0)=_
  refine zb6 st n hn ?_ ?_
  · intro again k hk
    dsimp only [st]
    have hd:decide ((k:Int) < (n:Int))=true:=by simp; omega
    have hs:secL l (k+1)=secL l k++[secN (l.getD k (3*(k:Int)))]:=by unfold secL; rw [List.range_succ,List.map_append]; rfl
    rw [hd,za8,zaQ,zfB,hs,←zDK]
    by_cases hkl:k < l.length
    · have hd2:decide ((k:Int) < (l.length:Int))=true:=by simp; omega
      have hg:l.getD k (3*(k:Int))=l[k]:=by simp [List.getD_eq_getElem?_getD,hkl]
      rw [hd2,za8,zab (by omega),zai (by simpa using zBf hkl),zbH,zqX,zah,zbU,zab (by omega),zab (by simp; omega),zab (by rfl),zaQ,zaq (n:=(k:Int)+1) (by omega) (by omega),zc7,zab (by simp),hg]
      rfl
    · have hd2:decide ((k:Int) < (l.length:Int))=false:=by simp; omega
      have hg:l.getD k (3*(k:Int))=3*(k:Int):=by simp [List.getD_eq_getElem?_getD,List.getElem?_eq_none (show l.length≤k by omega)]
      rw [hd2,zay,zaq (n:=3*(k:Int)) (by omega) (by omega),zqX,zah,zbU,zab (by omega),zab (by simp; omega),zab (by rfl),zaQ,zaq (n:=(k:Int)+1) (by omega) (by omega),zc7,zab (by simp),hg]
      rfl
  · intro again
    dsimp only [st]
    have hd:decide ((n:Int) < (n:Int))=false:=by simp
    rw [hd,zay,zab (by rfl),zab (zfz _)]
def zk0 (b:Nat) (k:Nat) (s:Nat×Nat):Nat×Nat:=
  (if 255 < s.1*2 then (s.1*2) ^^^ 285 else s.1*2,if b / 2 ^ k % 2=1 then s.2 ^^^ s.1 else s.2)
def zcw (a b:Nat):Nat→Nat×Nat
  | 0=>(a,0)
  | k+1=>zk0 b k (zcw a b k)
theorem zDL {m n k:Nat} (hm:m < 2 ^ k) (hn:n < 2 ^ k):m ^^^ n < 2 ^ k:=Nat.xor_lt_two_pow hm hn
theorem zEY (m n:Nat) (hm:m < 1024) (hn:n < 1024):bits .xor .i64 (m:Int) (n:Int)=((m ^^^ n:Nat):Int):=by
  have h:m ^^^ n < 2 ^ 10:=zDL (by omega) (by omega)
  have e:((BitVec.ofInt 64 (m:Int)) ^^^ (BitVec.ofInt 64 (n:Int))).toNat=m ^^^ n:=by
    rw [BitVec.toNat_xor]
    simp [Nat.mod_eq_of_lt (show m < 18446744073709551616 by omega),Nat.mod_eq_of_lt (show n < 18446744073709551616 by omega)]
  show IntKind.i64.wrap (((BitVec.ofInt 64 (m:Int)) ^^^ (BitVec.ofInt 64 (n:Int))).toNat:Int)=_
  rw [e]
  exact zaq (by omega) (by omega)
theorem zqY {a b:Nat} (ha:a < 256) (hb:b < 256):∀ k,k≤8→(zeh a b k).1=((zcw a b k).1:Int)∧(zeh a b k).2=((zcw a b k).2:Int)∧(zcw a b k).1 < 256∧(zcw a b k).2 < 256
  | 0,_=>⟨zaq (by omega) (by omega),rfl,ha,by show 0 < 256; omega⟩
  | k+1,hk=>by
    obtain ⟨h1,h2,h3,h4⟩:=zqY ha hb k (by omega)
    have w:IntKind.i64.wrap (((zcw a b k).1:Int)*2)=(((zcw a b k).1*2:Nat):Int):=by rw [zaq (by omega) (by omega)]; omega
    have hx:(zcw a b k).2 ^^^ (zcw a b k).1 < 256:=zm0 h4 h3
    have hbk:bits .and .u8 ((b:Int).fdiv (2 ^ min k 8)) 1=((b / 2 ^ k % 2:Nat):Int):=by
      have e:((b:Int).fdiv (2 ^ min k 8))=((b / 2 ^ k:Nat):Int):=by
        rw [show min k 8=k by omega,Int.fdiv_eq_ediv_of_nonneg _ (by exact_mod_cast Nat.zero_le (2 ^ k))]
        simp
      rw [e]
      exact and1 _ (Nat.lt_of_le_of_lt (Nat.div_le_self _ _) hb)
    have hd:∀ x < 256,255 < x*2→(x*2) ^^^ 285 < 256:=by decide+kernel
    show (zot b k (zeh a b k)).1=((zk0 b k (zcw a b k)).1:Int)∧(zot b k (zeh a b k)).2=((zk0 b k (zcw a b k)).2:Int)∧(zk0 b k (zcw a b k)).1 < 256∧(zk0 b k (zcw a b k)).2 < 256
    unfold zot zk0
    rw [h1,h2,hbk,w,zEY _ _ (by omega) (by omega)]
    have hx2:=zEY ((zcw a b k).1*2) 285 (by omega) (by omega)
    refine ⟨?_,?_,?_,?_⟩
    · dsimp only
      split
      · rw [if_pos (by omega)]; exact hx2
      · rw [if_neg (by omega)]
    · dsimp only
      split
      · rw [if_pos (by omega)]
      · rw [if_neg (by omega)]
    · dsimp only
      split
      · exact hd _ h3 (by assumption)
      · omega
    · dsimp only
      split
      · exact hx
      · exact h4
theorem zsr {a b:Nat} (ha:a < 256) (hb:b < 256):zeJ a b=((zcw a b 8).2:Int)∧(zcw a b 8).2 < 256:=by
  obtain ⟨_,h2,_,h4⟩:=zqY ha hb 8 (Nat.le_refl _)
  unfold zeJ
  rw [h2]
  exact ⟨zvZ (by omega) (by omega),h4⟩
def zou:Nat→Nat
  | 0=>1
  | k+1=>(zcw (zou k) 2 8).2
theorem zss:∀ k,zdS k=(zou k:Int)∧zou k < 256
  | 0=>⟨rfl,by decide⟩
  | k+1=>by
    obtain ⟨h1,h2⟩:=zss k
    show zeJ (zdS k) 2=((zcw (zou k) 2 8).2:Int)∧(zcw (zou k) 2 8).2 < 256
    have:=zsr h2 (show 2 < 256 by omega)
    rw [show ((2:Nat):Int)=2 from rfl] at this
    rw [h1]; exact this
theorem zvt:∀ k < 7,∀ x < 256,(zcw x (zou k) 8).2=mN x (powN k):=by decide+kernel
theorem zwy {x:Int} (h:Byt x) {k:Nat} (hk:k < 7):zeJ x (zdS k)=mul8 x (pow8 k):=by
  obtain ⟨m,hm,rfl⟩:=zes h
  obtain ⟨h1,h2⟩:=zss k
  have e1:=(zsr hm h2).1
  have e2:=(zdY hm (zhv k)).1
  have e3:=zvt k hk m hm
  rw [h1,zkV,e1,e2,e3]
theorem zAn {F:Nat→Int→Int} {f:Nat→Int} {ls:List (List Int)} (h:∀ l∈ls,Sec l) (hF:∀ k x,k < ls.length→Byt x→F k x=mul8 x (f k)):∀ {k:Nat},k≤ls.length→sumR F 32 ls k=sumK f 32 ls k
  | 0,_=>rfl
  | k+1,hk=>by
    have hs:=h _ (zdv (show k < ls.length by omega))
    show List.zipWith (fun a x=>xor8 a (F k x)) (sumR F 32 ls k) (ls.getD k [])=List.zipWith xor8 (sumK f 32 ls k) ((ls.getD k []).map (mul8 · (f k)))
    rw [zAn h hF (by omega),List.zipWith_map_right]
    apply List.ext_getElem?
    intro i
    rw [List.getElem?_zipWith,List.getElem?_zipWith]
    cases e1:(sumK f 32 ls k)[i]? with
    | none=>rfl
    | some a=>
      cases e2:(ls.getD k [])[i]? with
      | none=>rfl
      | some x=>simp only; rw [hF k x (by omega) (hs.byt x (List.mem_of_getElem? e2))]
theorem zBV {ls:List (List Int)} (h:∀ l∈ls,Sec l):refP 32 ls=sumP 32 ls:=by
  have:=zAn (F:=fun _ x=>x) (f:=fun _=>1) h (fun _ x _ hx=>(zpn hx).symm) (Nat.le_refl ls.length)
  exact this
theorem zBW {ls:List (List Int)} (h:∀ l∈ls,Sec l) (h7:ls.length≤7):refQ 32 ls=sumQ 32 ls:=by
  have:=zAn (F:=fun k x=>zeJ x (zdS k)) (f:=pow8) h (fun k x hk hx=>zwy hx (by omega)) (Nat.le_refl ls.length)
  exact this
end Wf

namespace Wf
open Go Go.RowKit Go.Proofs
set_option linter.unusedSimpArgs false
set_option linter.unusedVariables false
set_option maxHeartbeats 4000000
section
variable (g:Geo) (row k n:Int)
theorem zmz:zct [.agg [.int .i64 g.l,.int .i64 g.d,.int .i64 g.c],.int .i64 row]=some (.bool (zcB g row)):=by
  rw [zwi]
  unfold ztq
  rw [show D.agg [.int .i64 g.l,.int .i64 g.d,.int .i64 g.c]=gD g.l g.d g.c from rfl,zij,zah]
  show asI IntKind.i64 (.int .i64 _) _=_
  rw [zbH]
  unfold zcB
  cases h:g.ok
  · have:zfa g.l g.d g.c=false:=h
    simp [this]
  · have:zfa g.l g.d g.c=true:=h
    by_cases h0:0≤row
    · simp [this,h0]
    · simp [this,h0]
theorem zk1:zaJ [.agg [.int .i64 g.l,.int .i64 g.d,.int .i64 g.c],.int .i64 row]=some (.tup [.int .i64 (parP g row).1,.int .i64 (parP g row).2]):=zvl g row
theorem zqZ:zbi [.agg [.int .i64 g.l,.int .i64 g.d,.int .i64 g.c],.int .i64 row,.int .i64 k]=some (.int .i64 (zdy g row k)):=zym g row k
theorem zk2:zaP [.agg [.int .i64 g.l,.int .i64 g.d,.int .i64 g.c]]=some (.int .i64 g.width):=zvk g
theorem zAo:zbb [.agg [.int .i64 g.l,.int .i64 g.d,.int .i64 g.c],.int .i64 row,.int .i64 k]=some (.int .i64 (zdy g row k)):=zBI g row k
theorem zxz:zaz [.agg [.int .i64 g.l,.int .i64 g.d,.int .i64 g.c],.int .i64 row]=some (.tup [.int .i64 (parP g row).1,.int .i64 (parP g row).2]):=zz7 g row
theorem zq0:zar [.agg [.int .i64 g.l,.int .i64 g.d,.int .i64 g.c],.int .i64 row]=some (.bool (zcB g row)):=ztJ g row
theorem zil:zac [.agg [.int .i64 g.l,.int .i64 g.d,.int .i64 g.c]]=some (.int .i64 g.width):=zso g
end
def zg4 (g:Geo) (row:Int) (ls:List (List Int)):Nat→List Part
  | 0=>List.replicate g.d.toNat (Tag.nil,[])
  | k+1=>(zg4 g row ls k).set (zdy g row (k:Int)).toNat (Tag.fresh,ls.getD k [])
def zyr (g:Geo) (row:Int) (ls:List (List Int)) (p q:List Int):List Part:=
  if (parP g row).2 < 0 then (zg4 g row ls g.width.toNat).set (parP g row).1.toNat (Tag.fresh,p)
  else ((zg4 g row ls g.width.toNat).set (parP g row).1.toNat (Tag.fresh,p)).set (parP g row).2.toNat (Tag.fresh,q)
theorem ze7 (g:Geo) (row:Int) (ls:List (List Int)) (k:Nat):(zg4 g row ls k).length=g.d.toNat:=by
  induction k with
  | zero=>simp [zg4]
  | succ k ih=>simp [zg4,ih]
theorem zst (g:Geo) (row:Int) (ls:List (List Int)) (k:Nat):∀ x∈zg4 g row ls k,Part.free x=true:=by
  induction k with
  | zero=>intro x hx; rw [(List.mem_replicate.1 hx).2]; rfl
  | succ k ih=>
    intro x hx
    rcases List.mem_or_eq_of_mem_set hx with hx | hx
    · exact ih x hx
    · rw [hx]; rfl
theorem zpt {ps:List Part} (h:∀ x∈ps,Part.free x=true) (i:Nat) (l:List Int):∀ x∈ps.set i (Tag.fresh,l),Part.free x=true:=by
  intro x hx
  rcases List.mem_or_eq_of_mem_set hx with hx | hx
  · exact h x hx
  · rw [hx]; rfl
theorem ziY (t:Tag) (l:List D):D.isAgg (.sl t l)=false:=rfl
theorem zxA (n:Nat):pL (List.replicate n (Tag.nil,[]))=List.replicate n (D.sl .nil []):=by simp [pL,uL]
section
variable {g:Geo} {row:Int} (h:zcB g row=true)
include h
theorem zxB {ls:List (List Int)} {d:Int} (d0:0≤d) (d1:d < g.d) (h1:d≠(parP g row).1) (h2:d≠(parP g row).2):∀ k:Nat,(k:Int)≤g.width→
    (zg4 g row ls k)[d.toNat]? =some (if zfm g d row < k then (Tag.fresh,ls.getD (zfm g d row).toNat []) else (Tag.nil,[]))
  | 0,_=>by
    obtain ⟨c0,c1,c2⟩:=zkZ h d0 d1 h1 h2
    unfold zg4
    rw [List.getElem?_replicate,if_pos (by omega),if_neg (by omega)]
  | k+1,hk=>by
    obtain ⟨c0,c1,c2⟩:=zkZ h d0 d1 h1 h2
    have hdi:=zl7 h (k:=(k:Int)) (by omega) (by omega)
    have ih:=zxB (ls:=ls) d0 d1 h1 h2 k (by omega)
    unfold zg4
    rw [List.getElem?_set]
    by_cases e:zfm g d row=k
    · have e2:zdy g row k=d:=by rw [←e]; exact c2
      rw [if_pos (by rw [e2]),if_pos (by rw [ze7,e2]; omega),if_pos (by omega)]
      congr 3
      rw [e]; rfl
    · have e2:zdy g row k≠d:=fun e2=>e (zu4 h c0 c1 (by omega) (by omega) (by rw [c2,e2]))
      rw [if_neg (by omega),ih]
      by_cases hlt:zfm g d row < k
      · rw [if_pos hlt,if_pos (by omega)]
      · rw [if_neg hlt,if_neg (by omega)]
theorem zsu (ls:List (List Int)) (p q:List Int) (hp:p=sumP 32 ls) (hq:q=sumQ 32 ls∨g.l=5):zyr g row ls p q=fP (zcC g row ls):=by
  obtain ⟨hk,r0,r1⟩:=zbW.1 h
  have hw:=zd1 hk
  obtain ⟨p0,p1,p2⟩:=zqu h
  have hpq:=zCr h
  have hlen:(zyr g row ls p q).length=g.d.toNat:=by unfold zyr; split<;>simp [ze7]
  apply List.ext_getElem?
  intro i
  by_cases hi:i < g.d.toNat
  · have hr:(fP (zcC g row ls))[i]? =some (Tag.fresh,atR g row ls i):=zsq (zgt (by omega))
    rw [hr]
    have hbase:∀ d:Int,0≤d→d < g.d→d≠(parP g row).1→d≠(parP g row).2→(zg4 g row ls g.width.toNat)[d.toNat]? =some (Tag.fresh,atR g row ls d):=by
      intro d d0 d1 n1 n2
      obtain ⟨c0,c1,c2⟩:=zkZ h d0 d1 n1 n2
      rw [zxB h d0 d1 n1 n2 _ (by omega),if_pos (by omega)]
      unfold atR
      rw [if_neg n1,if_neg n2]
    unfold zyr
    by_cases e1:(i:Int)=(parP g row).1
    · have ha:atR g row ls i=p:=by rw [e1,at_p h,hp]
      rw [ha]
      split
      · rw [List.getElem?_set,if_pos (by omega),if_pos (by rw [ze7]; omega)]
      · rw [List.getElem?_set,if_neg (by omega),List.getElem?_set,if_pos (by omega),if_pos (by rw [ze7]; omega)]
    · by_cases e2:(i:Int)=(parP g row).2
      · have ha:atR g row ls i=sumQ 32 ls:=by rw [e2,at_q h]
        have h6:¬ (parP g row).2 < 0:=by omega
        rw [ha,if_neg h6,List.getElem?_set,if_pos (by omega),if_pos (by rw [List.length_set,ze7]; omega)]
        rcases hq with hq | hq
        · rw [hq]
        · rcases p2 with ⟨e,_⟩ | ⟨_,_,e⟩<;>omega
      · have:=hbase i (by omega) (by omega) e1 e2
        rw [Int.toNat_natCast] at this
        split
        · rw [List.getElem?_set,if_neg (by omega),this]
        · rw [List.getElem?_set,if_neg (by omega),List.getElem?_set,if_neg (by omega),this]
  · rw [List.getElem?_eq_none (by omega),List.getElem?_eq_none (by simp [zhY]; omega)]
end
theorem zBX (t:Tag) (l:List Int):zap [.sl t (uL l)]=some (.bool (!decide (l.length=32))):=by
  rw [zns,zcO]
  unfold zgY
  simp only [zdw]
  congr 2
  by_cases h:l.length=32
  · simp [h]
  · simp [h]; omega
theorem zov (tg:Tag) (ps:List Part) (hn:ps.length < 100000):
    ∃ r,zag [.sl tg (pL ps),.fn ID.row_sectors_1 [] []]=some r∧∃ i:Int,r=.int .i64 i∧decide (i≥0)= !(ps.all fun x=>decide (x.2.length=32)):=by
  rw [zdB,zcQ]
  have hm:(ps.all fun x=>decide (x.2.length=32))=((ps.map fun x=>(zbV x.1 x.2,x.2)).all fun x=>decide (x.2.length=32)):=by rw [List.all_map]; rfl
  have hlen:(ps.map fun x=>(zbV x.1 x.2,x.2)).length=ps.length:=by simp
  rw [hm]
  rw [←hlen] at hn
  generalize (ps.map fun x=>(zbV x.1 x.2,x.2))=rs at*
  unfold zbY
  refine zxe (fun a=>(rs.length:Nat) - a.1.2.2.1.toNat) (fun r=>∃ i:Int,r=D.int .i64 i∧decide (i≥0)= !(rs.all fun x=>decide (x.2.length=32)))
    (fun a=>∃ k:Nat,k≤rs.length∧((rs.take k).all fun x=>decide (x.2.length=32))=true∧a=((pL rs,(rs.length:Int),(k:Int),PUnit.unit),PUnit.unit)) ?_ ⟨0,by omega,by simp,by rw [zvp]; rfl⟩ (by simp; omega)
  rintro again _ ⟨k,hk,he,rfl⟩ hag
  dsimp only
  by_cases hkm:k < rs.length
  · obtain ⟨x,hx⟩:∃ x,rs[k]? =some x:=⟨_,List.getElem?_eq_getElem hkm⟩
    have hd:decide ((k:Int) < (rs.length:Int))=true:=by simp; omega
    rw [hd,za8,zab (by omega),zai (by simpa using zcv hx),zeR,zBX,zah,zcY]
    by_cases hf:x.2.length=32
    · simp only [hf,decide_true,Bool.not_true,zay,zaQ]
      rw [zaq (by omega) (by omega)]
      refine hag _ ⟨k+1,by omega,?_,rfl⟩ (by simp; omega)
      rw [List.take_add_one,hx,List.all_append,he]
      simp [hf]
    · simp only [hf,decide_false,Bool.not_false,za8]
      refine ⟨_,rfl,_,rfl,?_⟩
      have:(rs.all fun x=>decide (x.2.length=32))=false:=by
        rw [List.all_eq_false]
        exact ⟨x,List.mem_of_getElem? hx,by simp [hf]⟩
      rw [this]
      simp
  · have hd:decide ((k:Int) < (rs.length:Int))=false:=by simp; omega
    rw [hd,zay]
    refine ⟨_,rfl,_,rfl,?_⟩
    rw [List.take_of_length_le (by omega)] at he
    rw [he]
    rfl
theorem row_sectors (tg:Tag) (ps:List Part) (hn:ps.length < 100000):zb3 [.sl tg (pL ps)]=some (.bool (ps.all fun x=>decide (x.2.length=32))):=by
  rw [zph,zcQ]
  have hm:(ps.all fun x=>decide (x.2.length=32))=((ps.map fun x=>(zbV x.1 x.2,x.2)).all fun x=>decide (x.2.length=32)):=by rw [List.all_map]; rfl
  have hlen:(ps.map fun x=>(zbV x.1 x.2,x.2)).length=ps.length:=by simp
  rw [hm]
  rw [←hlen] at hn
  generalize (ps.map fun x=>(zbV x.1 x.2,x.2))=rs at*
  unfold ziU
  have:zae [.sl .lent (pL rs),.fn ID.row_sectors_1 [] []]=some (.bool (!(rs.all fun x=>decide (x.2.length=32)))):=by
    rw [zdk,zcQ]
    have hm:(rs.all fun x=>decide (x.2.length=32))=((rs.map fun x=>(zbV x.1 x.2,x.2)).all fun x=>decide (x.2.length=32)):=by rw [List.all_map]; rfl
    have hlen:(rs.map fun x=>(zbV x.1 x.2,x.2)).length=rs.length:=by simp
    rw [hm]
    rw [←hlen] at hn
    generalize (rs.map fun x=>(zbV x.1 x.2,x.2))=qs at*
    unfold zbP
    obtain ⟨r,h1,i,rfl,h2⟩:=zov .lent qs hn
    rw [h1,zah,zbH,h2]
  rw [this,zah,zcY,Bool.not_not]
theorem zBY (g:Geo) (row:Int) (tg:Tag) {ps:List Part} (hn:ps.length < 100000):
    zcV [.agg [.int .i64 g.l,.int .i64 g.d,.int .i64 g.c],.int .i64 row,.sl tg (pL ps)]=some (solD (zqv g row (ps.map (·.2)))):=by
  rw [ztI,zcQ]
  have hlen:(ps.map fun x=>(zbV x.1 x.2,x.2)).length=ps.length:=by simp
  have hm:(ps.map fun x=>(zbV x.1 x.2,x.2)).map (·.2)=ps.map (·.2):=by rw [List.map_map]; rfl
  rw [←hlen] at hn
  rw [←hm]
  generalize (ps.map fun x=>(zbV x.1 x.2,x.2))=rs at*
  clear hm hlen ps
  unfold zok zqv
  cases h:zcB g row
  · simp [zmz,h,solD]
  by_cases hl:(rs.length:Int)=g.width
  · have hall:((rs.map (·.2)).all fun x=>decide (x.length=32))=(rs.all fun x=>decide (x.2.length=32)):=by rw [List.all_map]; rfl
    rw [hall]
    cases hs:(rs.all fun x=>decide (x.2.length=32))
    · simp [zmz,h,solD,zk2,hl,row_sectors _ _ hn,hs]
    · have hl':∀ x∈rs,x.2.length=32:=fun x hx=>by rw [List.all_eq_true] at hs; simpa using hs x hx
      rw [if_pos ⟨rfl,by simp [hl],rfl⟩]
      obtain ⟨hk,r0,r1⟩:=zbW.1 h
      have hw:=zd1 hk
      have hdd:=ok_d hk
      have hb:((((pL rs).length:Nat):Int) != g.width)=false:=by simp [hl]
      have hrl:rs.length=g.width.toNat:=by omega
      rw [zmz,zah,zcY,h,Bool.not_true,zay,zk2,zah,zbH,hb,zay,row_sectors _ _ hn,zah,zcY,hs,Bool.not_true,zay,zab (by omega),zab (by rfl),zab (by omega),zab (by omega),zab (by simp)]
      let st:Nat→(Int×List D×(Int×Int×Int×PUnit)×List D×List D×Int×Int×PUnit)×PUnit:=fun k=>((row,pL rs,(g.l,g.d,g.c,PUnit.unit),pL (zg4 g row (rs.map (·.2)) k),pL rs,((pL rs).length:Int),(k:Int),PUnit.unit),PUnit.unit)
      have hst:st 0=((row,pL rs,(g.l,g.d,g.c,PUnit.unit),List.replicate g.d.toNat (D.sl .nil []),pL rs,((pL rs).length:Int),0,PUnit.unit),PUnit.unit):=by
        simp only [st,zg4,zxA]; rfl
      rw [←hst]
      refine zcy st rs.length (by omega) ?_ ?_
      · intro again k hk'
        dsimp only [st]
        obtain ⟨x,hx⟩:∃ x,rs[k]? =some x:=⟨_,List.getElem?_eq_getElem hk'⟩
        have hxs:=hl' x (List.mem_of_getElem? hx)
        have hxe:rs[k]=x:=by rw [List.getElem?_eq_getElem hk'] at hx; exact Option.some.inj hx
        have hdi:=zl7 h (k:=(k:Int)) (by omega) (by omega)
        have hfl:=ze7 g row (rs.map (·.2)) k
        obtain ⟨y,hy⟩:∃ y,(zg4 g row (rs.map (·.2)) k)[(zdy g row (k:Int)).toNat]? =some y:=⟨_,List.getElem?_eq_getElem (by omega)⟩
        have hgd:(rs.map (·.2)).getD k []=x.2:=by simp [List.getD_eq_getElem?_getD,hx]
        have hgx:(pL rs)[k]? =some (.sl x.1 (uL x.2)):=zcv hx
        have hlt:(zdy g row (k:Int)).toNat < g.d.toNat:=by omega
        simp (disch:=first | omega | assumption | (simp; done) | fail) [-List.all_eq_true,hk',zai hgx,zqZ,zqU (show x.2.length≤4294967296 by omega),hdi.1,hfl,hlt,zai (zcv hy),ziY,zaq,zoV,zg4]
        rw [hxe]
      · intro again
        dsimp only [st]
        obtain ⟨p0,p1,p2⟩:=zqu h
        have hfl:=ze7 g row (rs.map (·.2)) rs.length
        obtain ⟨y,hy⟩:∃ y,(zg4 g row (rs.map (·.2)) rs.length)[(parP g row).1.toNat]? =some y:=⟨_,List.getElem?_eq_getElem (by omega)⟩
        have hrp:=zAg (n:=32) .lent (ps:=rs) (by omega) (by omega) (by omega) hl'
        have hrq:=zAh (n:=32) .lent (ps:=rs) (by omega) (by omega) (by omega) hl'
        have hff:=zsu h (rs.map (·.2)) (sumP 32 (rs.map (·.2))) (sumQ 32 (rs.map (·.2))) rfl (.inl rfl)
        have hfree:=zpt (zst g row (rs.map (·.2)) rs.length) (parP g row).1.toNat (sumP 32 (rs.map (·.2)))
        have hfree2:=zpt hfree (parP g row).2.toNat (sumQ 32 (rs.map (·.2)))
        have hlt:(parP g row).1.toNat < g.d.toNat:=by omega
        unfold zyr at hff
        rw [←hrl] at hff
        rcases p2 with ⟨p2,_⟩ | ⟨q0,q1,_⟩
        · rw [if_pos (by omega)] at hff
          have hq:¬ (0≤(parP g row).2):=by omega
          simp (disch:=first | omega | assumption | (simp; done) | fail) [-List.all_eq_true,zk1,hrp,p0,hfl,hlt,zai (zcv hy),ziY,hq,zoV,zkD hfree,solD,hff,zfz]
        · rw [if_neg (by omega)] at hff
          have hlt2:(parP g row).2.toNat < g.d.toNat:=by omega
          obtain ⟨z,hz⟩:∃ z,((zg4 g row (rs.map (·.2)) rs.length).set (parP g row).1.toNat (Tag.fresh,sumP 32 (rs.map (·.2))))[(parP g row).2.toNat]? =some z:=⟨_,List.getElem?_eq_getElem (by simp [hfl]; omega)⟩
          simp (disch:=first | omega | assumption | (simp; done) | fail) [-List.all_eq_true,zk1,hrp,hrq,p0,q0,hfl,hlt,hlt2,zai (zcv hy),zai (zcv hz),ziY,zoV,zkD hfree,zkD hfree2,solD,hff,zfz]
  · have h2:¬ (true=true∧(((rs.map (·.2)).length:Nat):Int)=g.width∧((rs.map (·.2)).all fun x=>decide (x.length=32))=true):=by rintro ⟨_,e,_⟩; simp at e; exact hl e
    rw [if_neg h2]
    simp [zmz,h,solD,zk2,hl]
end Wf

namespace Wf
open Go Go.RowKit Go.Proofs
set_option linter.unusedSimpArgs false
set_option linter.unusedVariables false
set_option maxHeartbeats 4000000
def zfD (g:Geo) (row:Int) (rs:List Part) (k:Nat):List Part:=(List.range k).map fun (j:Nat)=>rs.getD (zdy g row (j:Int)).toNat (.nil,[])
theorem zvu (g:Geo) (row:Int) (rs:List Part):(zfD g row rs g.width.toNat).map (·.2)=zgJ g row (rs.map (·.2)):=by
  unfold zfD zgJ
  rw [List.map_map]
  apply List.map_congr_left
  intro j _
  simp [List.getD_eq_getElem?_getD]
  cases rs[(zdy g row (j:Int)).toNat]? <;>rfl
theorem ztR (g:Geo) (row:Int) (rs:List Part) {k:Nat} {x:Part} (h:rs[(zdy g row (k:Int)).toNat]? =some x):zfD g row rs (k+1)=zfD g row rs k++[x]:=by
  unfold zfD
  rw [List.range_succ,List.map_append]
  simp [List.getD_eq_getElem?_getD,h]
theorem zq1 {R:Type} (a b:D) (f:LfT [.any,.any]→Option R):zaB [.any,.any] [a,b] f=f (a,b,()):=by rw [zeG,zeG,zhj]
theorem zBZ (g:Geo) (row:Int) (tg:Tag) {ps:List Part} (hn:ps.length < 100000):
    zcU [.agg [.int .i64 g.l,.int .i64 g.d,.int .i64 g.c],.int .i64 row,.sl tg (pL ps)]=some (solD (zye g row (ps.map (·.2)))):=by
  rw [ztE,zcQ]
  have hm:(ps.map fun x=>(zbV x.1 x.2,x.2)).map (·.2)=ps.map (·.2):=by rw [List.map_map]; rfl
  have hlen:(ps.map fun x=>(zbV x.1 x.2,x.2)).length=ps.length:=by simp
  rw [←hm]
  rw [←hlen] at hn
  generalize (ps.map fun x=>(zbV x.1 x.2,x.2))=rs at*
  clear hm hlen ps
  unfold zoh zye
  cases h:zcB g row
  · simp [zmz,h,solD]
  by_cases hl:(rs.length:Int)=g.d
  · rw [if_pos ⟨rfl,by simp [hl]⟩]
    have hk:=(zbW.1 h).1
    have hw:=zd1 hk
    have hdd:=ok_d hk
    have hb:((((pL rs).length:Nat):Int) != g.d)=false:=by simp [hl]
    rw [zmz,zah,zcY,h,Bool.not_true,zay,hb,zay,zk2,zah,zbH]
    let st:Nat→(Int×List D×(Int×Int×Int×PUnit)×List D×Int×Int×PUnit)×PUnit:=fun k=>((row,pL rs,(g.l,g.d,g.c,PUnit.unit),pL (zfD g row rs k),g.width,(k:Int),PUnit.unit),PUnit.unit)
    have hst:st 0=((row,pL rs,(g.l,g.d,g.c,PUnit.unit),[],g.width,0,PUnit.unit),PUnit.unit):=rfl
    rw [←hst]
    refine zcy st g.width.toNat (by omega) ?_ ?_
    · intro again k hk'
      dsimp only [st]
      have hd:(k:Int) < g.width:=by omega
      have hdi:=zl7 h (k:=(k:Int)) (by omega) (by omega)
      obtain ⟨x,hx⟩:∃ x,rs[(zdy g row (k:Int)).toNat]? =some x:=⟨_,List.getElem?_eq_getElem (by omega)⟩
      have hpl:(zfD g row rs k).length=k:=by simp [zfD]
      simp (disch:=first | omega | assumption | (simp; done) | fail) [-List.all_eq_true,hd,zqZ,hdi.1,zai (zcv hx),hpl,zaq,zAf,ztR g row rs hx]
    · intro again
      dsimp only [st]
      have hd:¬ ((g.width.toNat:Nat):Int) < g.width:=by omega
      obtain ⟨p0,p1,p2⟩:=zqu h
      obtain ⟨xp,hxp⟩:∃ x,rs[(parP g row).1.toNat]? =some x:=⟨_,List.getElem?_eq_getElem (by omega)⟩
      have hpo:pOf g row (rs.map (·.2))=xp.2:=by unfold pOf; simp [List.getD_eq_getElem?_getD,hxp]
      have hrl:(zfD g row rs g.width.toNat).length < 100000:=by simp [zfD]; omega
      have hsol:=fun tq q=>zBS xp.1 tq .lent xp.2 q hrl
      rw [zvu] at hsol
      rw [hpo]
      rcases p2 with ⟨p2,_⟩ | ⟨q0,q1,_⟩
      · have hqo:qOf g row (rs.map (·.2))=[]:=by unfold qOf; rw [if_pos (by omega)]
        have hq:(parP g row).2 < 0:=by omega
        have hs:=hsol .nil []
        rw [show uL []=([]:List D) from rfl] at hs
        rw [hqo]
        simp (disch:=first | omega | assumption | (simp; done) | fail) [-List.all_eq_true,ztM,hd,zk1,hq,p0,zai (zcv hxp),hs]
        cases zqm xp.2 [] (zgJ g row (rs.map (·.2)))<;>simp [-List.all_eq_true,solD,zfz]
      · obtain ⟨xq,hxq⟩:∃ x,rs[(parP g row).2.toNat]? =some x:=⟨_,List.getElem?_eq_getElem (by omega)⟩
        have hqo:qOf g row (rs.map (·.2))=xq.2:=by unfold qOf; rw [if_neg (by omega)]; simp [List.getD_eq_getElem?_getD,hxq]
        have hq:¬ (parP g row).2 < 0:=by omega
        rw [hqo]
        simp (disch:=first | omega | assumption | (simp; done) | fail) [-List.all_eq_true,ztM,hd,zk1,hq,p0,q0,zai (zcv hxp),zai (zcv hxq),hsol]
        cases zqm xp.2 xq.2 (zgJ g row (rs.map (·.2)))<;>simp [-List.all_eq_true,solD,zfz]
  · have h2:¬ (true=true∧(((rs.map (·.2)).length:Nat):Int)=g.d):=by rintro ⟨_,e⟩; simp at e; exact hl e
    rw [if_neg h2]
    simp [zmz,h,solD,hl]
theorem ztS (g:Geo) (row:Int) (tg:Tag) {ps:List Part} (hn:ps.length < 100000) (hs:∀ x∈ps,Sec x.2):
    zaI [.agg [.int .i64 g.l,.int .i64 g.d,.int .i64 g.c],.int .i64 row,.sl tg (pL ps)]=some (solD (zqv g row (ps.map (·.2)))):=by
  rw [zj7,zcQ]
  have hlen:(ps.map fun x=>(zbV x.1 x.2,x.2)).length=ps.length:=by simp
  have hm:(ps.map fun x=>(zbV x.1 x.2,x.2)).map (·.2)=ps.map (·.2):=by rw [List.map_map]; rfl
  have hs':∀ x∈(ps.map fun x=>(zbV x.1 x.2,x.2)),Sec x.2:=by intro x hx; obtain ⟨y,hy,rfl⟩:=List.mem_map.1 hx; exact hs y hy
  rw [←hlen] at hn
  rw [←hm]
  generalize (ps.map fun x=>(zbV x.1 x.2,x.2))=rs at*
  clear hm hlen hs ps
  unfold zeW zqv
  have hsl:∀ x∈rs.map (·.2),Sec x:=by intro x hx; obtain ⟨y,hy,rfl⟩:=List.mem_map.1 hx; exact hs' y hy
  have hl':∀ x∈rs,x.2.length=32:=fun x hx=>(hs' x hx).len
  have hall:((rs.map (·.2)).all fun x=>decide (x.length=32))=true:=by rw [List.all_eq_true]; intro x hx; simpa using (hsl x hx).len
  cases h:zcB g row
  · simp [zq0,h,solD]
  by_cases hl:(rs.length:Int)=g.width
  · rw [if_pos ⟨rfl,by simp [hl],hall⟩]
    obtain ⟨hk,r0,r1⟩:=zbW.1 h
    have hw:=zd1 hk
    have hdd:=ok_d hk
    have hb:((((pL rs).length:Nat):Int) != g.width)=false:=by simp [hl]
    have hrl:rs.length=g.width.toNat:=by omega
    rw [zq0,zah,zcY,h,Bool.not_true,zay,zil,zah,zbH,hb,zay,zab (by omega),zab (by rfl),zab (by omega),zab (by omega),zab (by simp)]
    let st:Nat→(Int×List D×(Int×Int×Int×PUnit)×List D×List D×Int×Int×PUnit)×PUnit:=fun k=>((row,pL rs,(g.l,g.d,g.c,PUnit.unit),pL (zg4 g row (rs.map (·.2)) k),pL rs,((pL rs).length:Int),(k:Int),PUnit.unit),PUnit.unit)
    have hst:st 0=((row,pL rs,(g.l,g.d,g.c,PUnit.unit),List.replicate g.d.toNat (D.sl .nil []),pL rs,((pL rs).length:Int),0,PUnit.unit),PUnit.unit):=by
      simp only [st,zg4,zxA]; rfl
    rw [←hst]
    refine zcy st rs.length (by omega) ?_ ?_
    · intro again k hk'
      dsimp only [st]
      obtain ⟨x,hx⟩:∃ x,rs[k]? =some x:=⟨_,List.getElem?_eq_getElem hk'⟩
      have hxs:=hl' x (List.mem_of_getElem? hx)
      have hxe:rs[k]=x:=by rw [List.getElem?_eq_getElem hk'] at hx; exact Option.some.inj hx
      have hdi:=zl7 h (k:=(k:Int)) (by omega) (by omega)
      have hfl:=ze7 g row (rs.map (·.2)) k
      obtain ⟨y,hy⟩:∃ y,(zg4 g row (rs.map (·.2)) k)[(zdy g row (k:Int)).toNat]? =some y:=⟨_,List.getElem?_eq_getElem (by omega)⟩
      have hgd:(rs.map (·.2)).getD k []=x.2:=by simp [List.getD_eq_getElem?_getD,hx]
      have hgx:(pL rs)[k]? =some (.sl x.1 (uL x.2)):=zcv hx
      have hlt:(zdy g row (k:Int)).toNat < g.d.toNat:=by omega
      simp (disch:=first | omega | assumption | (simp; done) | fail) [-List.all_eq_true,hk',zai hgx,zAo,hxs,hdi.1,hfl,hlt,zai (zcv hy),ziY,zaq,zoV,zg4]
      rw [hxe]
    · intro again
      dsimp only [st]
      obtain ⟨p0,p1,p2⟩:=zqu h
      have hfl:=ze7 g row (rs.map (·.2)) rs.length
      obtain ⟨y,hy⟩:∃ y,(zg4 g row (rs.map (·.2)) rs.length)[(parP g row).1.toNat]? =some y:=⟨_,List.getElem?_eq_getElem (by omega)⟩
      have hrp:=zFG (n:=32) .lent (ps:=rs) (by omega) (by omega) (by omega) hl'
      have hrq:=zFH (n:=32) .lent (ps:=rs) (by omega) (by omega) (by omega) hl'
      rw [zBV hsl] at hrp
      rw [zBW hsl (by simp; omega)] at hrq
      have hff:=zsu h (rs.map (·.2)) (sumP 32 (rs.map (·.2))) (sumQ 32 (rs.map (·.2))) rfl (.inl rfl)
      have hfree:=zpt (zst g row (rs.map (·.2)) rs.length) (parP g row).1.toNat (sumP 32 (rs.map (·.2)))
      have hfree2:=zpt hfree (parP g row).2.toNat (sumQ 32 (rs.map (·.2)))
      have hlt:(parP g row).1.toNat < g.d.toNat:=by omega
      unfold zyr at hff
      rw [←hrl] at hff
      rcases p2 with ⟨p2,_⟩ | ⟨q0,q1,_⟩
      · rw [if_pos (by omega)] at hff
        have hq:¬ (0≤(parP g row).2):=by omega
        simp (disch:=first | omega | assumption | (simp; done) | fail) [-List.all_eq_true,zxz,hrp,p0,hfl,hlt,zai (zcv hy),ziY,hq,zoV,zkD hfree,solD,hff,zfz]
      · rw [if_neg (by omega)] at hff
        have hlt2:(parP g row).2.toNat < g.d.toNat:=by omega
        obtain ⟨z,hz⟩:∃ z,((zg4 g row (rs.map (·.2)) rs.length).set (parP g row).1.toNat (Tag.fresh,sumP 32 (rs.map (·.2))))[(parP g row).2.toNat]? =some z:=⟨_,List.getElem?_eq_getElem (by simp [hfl]; omega)⟩
        simp (disch:=first | omega | assumption | (simp; done) | fail) [-List.all_eq_true,zxz,hrp,hrq,p0,q0,hfl,hlt,hlt2,zai (zcv hy),zai (zcv hz),ziY,zoV,zkD hfree,zkD hfree2,solD,hff,zfz]
  · have h2:¬ (true=true∧(((rs.map (·.2)).length:Nat):Int)=g.width∧((rs.map (·.2)).all fun x=>decide (x.length=32))=true):=by rintro ⟨_,e,_⟩; simp at e; exact hl e
    rw [if_neg h2]
    simp [zq0,h,solD,zil,hl]
end Wf

namespace Wf
open Go Go.RowKit Go.Proofs
set_option linter.unusedSimpArgs false
set_option linter.unusedVariables false
set_option maxHeartbeats 4000000
theorem zk3 (live:List Bool):D.lentL (live.map D.bool)=live.map D.bool:=by
  induction live with
  | nil=>rfl
  | cons x l ih=>simp [ih]
theorem zq2 (acts:Nat→List Act):∀ (n k:Nat) (B:Ben),runE (fun k B=>runA (acts k) B) k n B=runA ((List.range' k n).flatMap acts) B
  | 0,k,B=>rfl
  | n+1,k,B=>by
    rw [List.range'_succ,List.flatMap_cons,zqs]
    show (if (runA (acts k) B).1=0 then _ else _)=_
    rw [zq2 acts n (k+1)]
theorem zpu (a:Act) (B:Ben):runA [a] B=B.act a:=by
  rw [zqr]
  by_cases h:(B.act a).1=0
  · rw [if_pos h]
    show (0,(B.act a).2)=B.act a
    rw [←h]
  · rw [if_neg h]
section
variable {B:Ben} {d a e:Int} {x:List Int}
theorem zq3 {s:DS} (hd:B.is d=true) (hf:s.failed=(B.dk d).failed):(B.setD d s).failed e=B.failed e:=by
  unfold Ben.failed
  rw [zwd]
  cases he:B.is e
  · rfl
  · rw [zgI hd (zfJ.1 he).1]
    split
    · rename_i q; subst q; rw [hf]
    · rfl
theorem zys (B:Ben) (d a:Int) (x:List Int):(B.write d a x).2.n=B.n∧∀ e,(B.write d a x).2.failed e=B.failed e:=by
  unfold Ben.write
  split
  · exact ⟨rfl,fun _=>rfl⟩
  · rename_i h0
    have hd:=(may0.1 (Classical.not_not.1 h0)).1
    split
    · exact ⟨rfl,fun _=>rfl⟩
    · split
      · exact ⟨rfl,fun _=>rfl⟩
      · exact ⟨by simp,fun e=>zq3 (B:=(B.junk _).less) hd rfl⟩
theorem zyt (hB:B.Ok) (d:Int):(B.flush d).2.n=B.n∧∀ e,(B.flush d).2.failed e=B.failed e:=by
  unfold Ben.flush
  split
  · exact ⟨rfl,fun _=>rfl⟩
  · rename_i h0
    have hd:=(may0.1 (Classical.not_not.1 h0)).1
    refine ⟨by simp,fun e=>zq3 hd ?_⟩
    unfold DS.flush
    split
    · rfl
    · exact zlG (zk9 hB d).1
def Like (B B':Ben):Prop:=B'.n=B.n∧∀ e,B'.failed e=B.failed e
theorem Like.refl (B:Ben):Like B B:=⟨rfl,fun _=>rfl⟩
theorem Like.trans {A B C:Ben} (h1:Like A B) (h2:Like B C):Like A C:=⟨h2.1.trans h1.1,fun e=>(h2.2 e).trans (h1.2 e)⟩
theorem Like.up {B B':Ben} (h:Like B B') (live:List Bool) (e:Int):B'.up live e=B.up live e:=by unfold Ben.up; rw [h.1,h.2]
theorem zEZ {B:Ben} {live:List Bool} {d:Int} (h:B.up live d=true):d < B.n:=by
  unfold Ben.up at h
  simp only [Bool.and_eq_true,decide_eq_true_eq] at h
  exact h.1
end
section
variable {T0 T1:Tb} {b:Nat} {idx:List Nat} {B:Ben}
theorem zoX (h:At T0 T1 b idx B) (hw:B.w≤999000) (tg:Tag) (live:List Bool) (g:Geo) (r:Int) (tg2:Tag) {ps:List Part} (hn:ps.length < 100000) (hs:∀ x∈ps,Sec x.2):
    zbL [.h kB b 0,.sl tg (live.map D.bool),.agg [.int .i64 g.l,.int .i64 g.d,.int .i64 g.c],.int .i64 r,.sl tg2 (pL ps)] [P0 T0 b idx B,P1 T1 idx B]=
      some (Ans.mk (.int .i64 (B.sWrite live g r (ps.map (·.2))).1) [] [P0 T0 b idx (B.sWrite live g r (ps.map (·.2))).2,P1 T1 idx (B.sWrite live g r (ps.map (·.2))).2]):=by
  rw [zoo,zk3,zcQ]
  have hlen:(ps.map fun x=>(zbV x.1 x.2,x.2)).length=ps.length:=by simp
  have hm:(ps.map fun x=>(zbV x.1 x.2,x.2)).map (·.2)=ps.map (·.2):=by rw [List.map_map]; rfl
  have hs':∀ x∈(ps.map fun x=>(zbV x.1 x.2,x.2)),Sec x.2:=by intro x hx; obtain ⟨y,hy,rfl⟩:=List.mem_map.1 hx; exact hs y hy
  rw [←hlen] at hn
  rw [←hm]
  generalize (ps.map fun x=>(zbV x.1 x.2,x.2))=rs at*
  clear hm hlen hs ps
  unfold zhG Ben.sWrite
  have hfill:=zBY g r .lent hn
  cases hf:zqv g r (rs.map (·.2)) with
  | none=>
    rw [hf] at hfill
    simp [hfill,solD]
  | some o=>
    have hf0:=hf
    unfold zqv at hf0
    split at hf0
    rotate_left
    · cases hf0
    rename_i hc
    obtain ⟨hr,hlw,hall⟩:=hc
    cases hf0
    have hR:Row g (rs.map (·.2)):=⟨hlw,by intro x hx; obtain ⟨y,hy,rfl⟩:=List.mem_map.1 hx; exact hs' y hy⟩
    generalize rs.map (·.2)=data at*
    rw [hf] at hfill
    obtain ⟨hk,r0,r1⟩:=zbW.1 hr
    have hdd:=ok_d hk
    rw [if_neg (by simp)]
    have hrl:=zhY g r data
    let acts:Nat→List Act:=fun d=>if B.up live d then [.w d (36+r) (atR g r data d)] else []
    have hacts:B.wActs live g r data=(List.range' 0 g.d.toNat).flatMap acts:=by unfold Ben.wActs; rw [List.range_eq_range']
    rw [hacts,←zq2]
    let st:Nat→Ben→(Nat×List D×Int×List D×Int×Int×PUnit)×List (List D)×List (List D)×PUnit:=fun k B'=>((b,live.map D.bool,r,pL (fP (zcC g r data)),(g.d.toNat:Int),(k:Int),PUnit.unit),P0 T0 b idx B',P1 T1 idx B',PUnit.unit)
    have hst:st 0 B=((b,live.map D.bool,r,pL (fP (zcC g r data)),(g.d.toNat:Int),0,PUnit.unit),P0 T0 b idx B,P1 T1 idx B,PUnit.unit):=rfl
    simp (disch:=first | omega | assumption | (simp; done) | fail) only [hfill,solD,zah,zmY,zq1,zbU,zcY,Bool.not_true,zay,zab,Nat.zero_add,Nat.le_refl,zvp,zAl,hrl]
    rw [←hst]
    refine zuY (fun k B'=>runA (acts k) B') (fun k B'=>Nx k B B'∧Like B B') st (fun y=>some (Ans.mk (.int .i64 y.1) [] [P0 T0 b idx y.2,P1 T1 idx y.2])) g.d.toNat (by omega) ⟨.rfl' h.ok (by omega),.refl B⟩ ?_ ?_ ?_
    · rintro k B' hk' ⟨hx,hL⟩ he
      dsimp only [acts] at he ⊢
      have hsec:=zu6 hr hR (d:=(k:Int)) (by omega) (by omega)
      cases hu:B.up live (k:Int)
      · exact ⟨hx.mono (by omega),hL⟩
      · rw [if_pos rfl,zpu]
        exact ⟨(hx.trans (zBp hx.ok (.inl hsec))).mono (by omega),hL.trans (zys ..)⟩
    · rintro again k B' hk' ⟨hx,hL⟩
      dsimp only [st]
      have hA:=h.nx hx
      have hxw:=hx.w
      have hw':B'.w≤1000000:=by omega
      have hg:(pL (fP (zcC g r data)))[k]? =some (.sl .fresh (uL (atR g r data k))):=zcv (zsq (zgt (by omega)))
      have hup:=zDE hA .lent live (d:=(k:Int)) (by omega)
      rw [hL.up] at hup
      by_cases hu:B.up live (k:Int)=true
      rotate_left
      · have hu':B.up live (k:Int)=false:=by simpa using hu
        rw [hu'] at hup
        rw [show acts k=[] from if_neg hu]
        simp (disch:=first | omega | assumption | (simp; done) | fail) [hk',hrl,zai hg,hup,zaq,runA]
      · rw [hu] at hup
        rw [show acts k=[.w k (36+r) (atR g r data k)] from if_pos hu,zpu]
        have hwr:=zDF hA hw' (k:Int) (36+r) .fresh (atR g r data k)
        by_cases he:(B'.write k (36+r) (atR g r data k)).1=0
        · simp (disch:=first | omega | assumption | (simp; done) | fail) [hk',hrl,zai hg,hup,zaq,hwr,he,Ben.act]
        · simp (disch:=first | omega | assumption | (simp; done) | fail) [hk',hrl,zai hg,hup,zaq,hwr,he,Ben.act]
    · rintro again B' ⟨hx,hL⟩
      dsimp only [st]
      simp
theorem zvv (h:At T0 T1 b idx B) (hw:B.w≤999000) (tg:Tag) (live:List Bool):
    zbM [.h kB b 0,.sl tg (live.map D.bool)] [P0 T0 b idx B,P1 T1 idx B]=some (Ans.mk (.int .i64 (B.sFlush live).1) [] [P1 T1 idx (B.sFlush live).2]):=by
  rw [zor,zk3]
  unfold zhH Ben.sFlush
  let acts:Nat→List Act:=fun d=>if B.up live d then [.f d] else []
  have hacts:B.fActs live=(List.range' 0 B.ds.length).flatMap acts:=by unfold Ben.fActs; rw [List.range_eq_range']
  have hsm:=h.ok.small
  rw [hacts,←zq2]
  let st:Nat→Ben→(Nat×List D×Int×Int×PUnit)×List (List D)×List (List D)×PUnit:=fun k B'=>((b,live.map D.bool,(B.ds.length:Int),(k:Int),PUnit.unit),P0 T0 b idx B,P1 T1 idx B',PUnit.unit)
  have hst:st 0 B=((b,live.map D.bool,(B.ds.length:Int),0,PUnit.unit),P0 T0 b idx B,P1 T1 idx B,PUnit.unit):=rfl
  have hl:=zyo h
  unfold Ben.n at hl
  simp (disch:=first | omega | assumption | (simp; done) | fail) only [hl,zah,zel,zbH]
  rw [←hst]
  refine zuY (fun k B'=>runA (acts k) B') (fun k B'=>Nx 0 B B'∧Like B B'∧P0 T0 b idx B'=P0 T0 b idx B) st (fun y=>some (Ans.mk (.int .i64 y.1) [] [P1 T1 idx y.2])) B.ds.length (by omega) ⟨.rfl' h.ok (by omega),.refl B,rfl⟩ ?_ ?_ ?_
  · rintro k B' hk' ⟨hx,hL,h0⟩ he
    dsimp only [acts] at he ⊢
    cases hu:B.up live (k:Int)
    · exact ⟨hx,hL,h0⟩
    · rw [if_pos rfl,zpu]
      refine ⟨(hx.trans (zBq hx.ok)).mono (by omega),hL.trans (zyt hx.ok _),?_⟩
      show P0 T0 b idx (B'.flush k).2=_
      rw [←h0]
      unfold Ben.flush
      split<;>rfl
  · rintro again k B' hk' ⟨hx,hL,h0⟩
    dsimp only [st]
    have hA:=h.nx hx
    have hxw:=hx.w
    have hw':B'.w≤1000000:=by omega
    have hup:=zDE hA .lent live (d:=(k:Int)) (by omega)
    rw [hL.up,h0] at hup
    by_cases hu:B.up live (k:Int)=true
    rotate_left
    · have hu':B.up live (k:Int)=false:=by simpa using hu
      rw [hu'] at hup
      rw [show acts k=[] from if_neg hu]
      simp (disch:=first | omega | assumption | (simp; done) | fail) [hk',hup,zaq,runA]
    · rw [hu] at hup
      rw [show acts k=[.f k] from if_pos hu,zpu]
      have hfl:=zDG hA hw' (k:Int)
      rw [h0] at hfl
      by_cases he:(B'.flush k).1=0
      · simp (disch:=first | omega | assumption | (simp; done) | fail) [hk',hup,zaq,hfl,he,Ben.act]
      · simp (disch:=first | omega | assumption | (simp; done) | fail) [hk',hup,zaq,hfl,he,Ben.act]
  · rintro again B' ⟨hx,hL,h0⟩
    dsimp only [st]
    simp
end
end Wf

namespace Wf
open Go Go.RowKit Go.Proofs
set_option linter.unusedSimpArgs false
set_option linter.unusedVariables false
set_option maxHeartbeats 4000000
section
variable {T0 T1:Tb} {b:Nat} {idx:List Nat} {B:Ben}
theorem zDM {live:List Bool} {d a:Int} (hdn:B.down=false) (d0:0≤d) (hu:B.up live d=true) (a0:0≤a) (a1:a < 52):B.read d a=(B.cur d a,0):=by
  obtain ⟨h1,h2,_⟩:=zBz d0 hu
  rw [zjX h1] at h2
  unfold Ben.read
  rw [if_neg (by rw [may0.2 ⟨h1,hdn⟩]; simp)]
  unfold DS.read
  rw [if_neg (by rw [znX.2 ⟨h2,a0,a1⟩]; simp)]
  rfl
theorem zAp {live:List Bool} {d:Int} (a:Int) (hdn:B.down=true) (d0:0≤d) (hu:B.up live d=true):B.read d a=([],6):=by
  obtain ⟨h1,h2,_⟩:=zBz d0 hu
  have hm:B.may d=6:=by unfold Ben.may; rw [h1,hdn]; rfl
  unfold Ben.read
  rw [hm]; simp
def Ben.secP (B:Ben) (live:List Bool) (r:Int) (n k:Nat):List Part:=(List.range n).map fun (d:Nat)=>if d < k then (if B.up live d then (Tag.fresh,B.cur d (36+r)) else (Tag.nil,[])) else (Tag.nil,[])
theorem zB0 (live:List Bool) (r:Int) (n:Nat):(B.secP live r n n).map (·.2)=B.secs live r n:=by
  unfold Ben.secP Ben.secs
  rw [List.map_map]
  apply List.map_congr_left
  intro d hd
  have:=List.mem_range.1 hd
  simp only [Function.comp_apply,if_pos this]
  split<;>rfl
@[simp] theorem ztT (live:List Bool) (r:Int) (n k:Nat):(B.secP live r n k).length=n:=by simp [Ben.secP]
theorem zAq (live:List Bool) (r:Int) {n k:Nat} (hk:k < n) (hu:B.up live k=true):(B.secP live r n k).set k (Tag.fresh,B.cur k (36+r))=B.secP live r n (k+1):=by
  apply List.ext_getElem?
  intro j
  rw [List.getElem?_set]
  unfold Ben.secP
  by_cases hj:j < n
  · by_cases hjk:k=j
    · subst hjk; simp [hj,hu]
    · rw [if_neg hjk]
      simp only [List.getElem?_map,List.getElem?_range hj,Option.map_some]
      by_cases h1:j < k
      · simp only [if_pos h1,if_pos (show j < k+1 by omega)]
      · simp only [if_neg h1,if_neg (show ¬ j < k+1 by omega)]
  · have h1:k≠j:=by omega
    rw [if_neg h1,List.getElem?_eq_none (by simp; omega),List.getElem?_eq_none (by simp; omega)]
theorem zAr (live:List Bool) (r:Int) {n k:Nat} (hk:k < n) (hu:B.up live k=false):B.secP live r n k=B.secP live r n (k+1):=by
  unfold Ben.secP
  apply List.map_congr_left
  intro j hj
  by_cases h1:j < k
  · simp only [if_pos h1,if_pos (show j < k+1 by omega)]
  · by_cases hjk:j=k
    · subst hjk; simp [hu]
    · simp only [if_neg h1,if_neg (show ¬ j < k+1 by omega)]
theorem zAs (live:List Bool) (r:Int) (n:Nat):pL (B.secP live r n 0)=List.replicate n (D.sl .nil []):=by
  unfold Ben.secP pL
  rw [List.map_map]
  apply List.ext_getElem?
  intro j
  by_cases hj:j < n
  · simp [hj,uL]
  · rw [List.getElem?_eq_none (by simp; omega),List.getElem?_eq_none (by simp; omega)]
theorem zDN (live:List Bool) (r:Int) {n k:Nat} (hk:k < n):(B.secP live r n k)[k]? =some (Tag.nil,[]):=by unfold Ben.secP; simp [hk]
theorem zq4 (h:At T0 T1 b idx B) (hw:B.w≤1000000) (tg:Tag) (live:List Bool) (g:Geo) (r:Int):
    zbO [.h kB b 0,.sl tg (live.map D.bool),.agg [.int .i64 g.l,.int .i64 g.d,.int .i64 g.c],.int .i64 r] [P0 T0 b idx B,P1 T1 idx B]=
      some (Ans.mk (.tup [.sl .own (pL (fP (B.sRead live g r).1)),.int .i64 (B.sRead live g r).2]) [] []):=by
  rw [zpf,zk3]
  unfold ziS Ben.sRead
  have hck:zas [.agg [.int .i64 g.l,.int .i64 g.d,.int .i64 g.c]]=some (.int .i64 (if g.ok then 0 else 1)):=zij g.l g.d g.c
  cases hk:g.ok
  · have hf:zcB g r=false:=by unfold zcB; rw [hk]; rfl
    rw [hk] at hck
    simp [hck,hf]; rfl
  rw [hk] at hck
  by_cases r0:r < 0
  · have hf:zcB g r=false:=by unfold zcB; rw [hk]; simp; omega
    simp [hck,hf,r0]; rfl
  by_cases r1:r≥16
  · have hf:zcB g r=false:=by unfold zcB; rw [hk]; simp; omega
    simp [hck,hf,r0,show 16≤r by omega]; rfl
  have hr:zcB g r=true:=zbW.2 ⟨hk,by omega,by omega⟩
  have hdd:=ok_d hk
  rw [if_neg (by simp [hr])]
  have r1':¬ 16≤r:=by omega
  simp (disch:=first | omega | assumption | (simp; done) | fail) only [hck,if_true,zah,zbH,zCj,zBg,zab,List.length_replicate,Nat.zero_add,Nat.le_refl]
  let st:Nat→(Nat×List D×Int×(Int×Int×Int×PUnit)×List D×Int×Int×PUnit)×List (List D)×List (List D)×PUnit:=fun k=>
    ((b,live.map D.bool,r,(g.l,g.d,g.c,PUnit.unit),pL (B.secP live r g.d.toNat k),((g.d.toNat:Nat):Int),(k:Int),PUnit.unit),P0 T0 b idx B,P1 T1 idx B,PUnit.unit)
  have hst:st 0=((b,live.map D.bool,r,(g.l,g.d,g.c,PUnit.unit),List.replicate g.d.toNat (D.sl .nil []),((g.d.toNat:Nat):Int),0,PUnit.unit),P0 T0 b idx B,P1 T1 idx B,PUnit.unit):=by
    simp only [st,zAs]; rfl
  rw [←hst]
  refine zkU (fun x=>g.d.toNat - x.1.2.2.2.2.2.2.1.toNat) (fun _=>_) (fun x=>∃ k:Nat,k≤g.d.toNat∧(B.down=true→∀ j:Nat,j < k→B.up live j=false)∧x=st k) ?_ ⟨0,by omega,fun _ j hj=>by omega,rfl⟩ (by simp [st]; omega)
  rintro again _ ⟨k,hk',hdn,rfl⟩ hag
  dsimp only [st]
  by_cases hlt:k < g.d.toNat
  · have hup:=zDE h .lent live (d:=(k:Int)) (by omega)
    by_cases hu:B.up live (k:Int)=true
    · rw [hu] at hup
      cases hdo:B.down
      · have hrd:=zAd h hw (k:Int) (36+r)
        rw [zDM hdo (by omega) hu (by omega) (by omega)] at hrd
        have hg:=zDN (B:=B) live r hlt
        have:=hag (st (k+1)) ⟨k+1,by omega,fun e=>(by rw [hdo] at e; cases e),rfl⟩ (by simp [st]; omega)
        dsimp only [st] at this
        rw [←zAq live r hlt hu] at this
        simp (disch:=first | omega | assumption | (simp; done) | fail) [hlt,hup,hrd,zaq,ztT,zai (zcv hg),ziY,zoV]
        rw [show ((k+1:Nat):Int)=(k:Int)+1 by omega] at this
        simpa [hdo] using this
      · have hrd:=zAd h hw (k:Int) (36+r)
        rw [zAp (36+r) hdo (by omega) hu] at hrd
        have hany:(List.range g.d.toNat).any (fun (d:Nat)=>B.up live d)=true:=by
          rw [List.any_eq_true]; exact ⟨k,List.mem_range.2 hlt,hu⟩
        rw [hany]
        simp (disch:=first | omega | assumption | (simp; done) | fail) [hlt,hup,hrd,zaq]
        rfl
    · have hu':B.up live (k:Int)=false:=by simpa using hu
      rw [hu'] at hup
      have:=hag (st (k+1)) ⟨k+1,by omega,fun e j hj=>by
        by_cases ej:j=k
        · subst ej; exact hu'
        · exact hdn e j (by omega),rfl⟩ (by simp [st]; omega)
      dsimp only [st] at this
      rw [←zAr live r hlt hu'] at this
      rw [show ((k+1:Nat):Int)=(k:Int)+1 by omega] at this
      simp (disch:=first | omega | assumption | (simp; done) | fail) [hlt,hup,zaq]
      simpa using this
  · have hke:k=g.d.toNat:=by omega
    have hno:¬ (B.down=true∧(List.range g.d.toNat).any (fun (d:Nat)=>B.up live d)=true):=by
      rintro ⟨e1,e2⟩
      rw [List.any_eq_true] at e2
      obtain ⟨j,hj,hu⟩:=e2
      rw [hdn e1 j (by rw [hke]; exact List.mem_range.1 hj)] at hu; cases hu
    rw [if_neg hno]
    have htk:=zBZ g r .lent (ps:=B.secP live r g.d.toNat g.d.toNat) (by rw [ztT]; omega)
    rw [zB0] at htk
    subst hke
    simp (disch:=first | omega | assumption | (simp; done) | fail) [-List.all_eq_true,ztM,ztT,htk]
    cases zye g r (B.secs live r g.d.toNat) with
    | none=>simp [-List.all_eq_true,solD]; rfl
    | some o=>simp [-List.all_eq_true,solD,zfz]
end
end Wf

namespace Wf
open Go Go.RowKit Go.Proofs
set_option linter.unusedSimpArgs false
set_option linter.unusedVariables false
set_option maxHeartbeats 4000000
def zwz (w left:Int) (down:Bool) (hs:List D):List D:=[.int .i64 w,.int .i64 left,.bool down,.sl .own hs]
theorem zwA (m k:Nat):((List.range k).map fun j=>hD (m+j))++[hD (m+k)]=(List.range (k+1)).map fun j=>hD (m+j):=by simp [List.range_succ]
theorem zyu (l:List Nat):zc6 (l.map hD)=true:=by simp only [zc6,List.all_map,List.all_eq_true]; intro i _; rfl
theorem zAt (l:List Nat):zfH 1 (l.map hD)=true:=by simp only [zfH,List.all_map,List.all_eq_true]; intro i _; rfl
theorem zru {α:Type} (k:Nat) (a:α):List.replicate k a++[a]=List.replicate (k+1) a:=by
  rw [List.replicate_succ']
theorem zB1 (T0 T1:Tb) {n:Int} (h0:1≤n) (h1:n≤8):
    zbq [.int .i64 n] [T0,T1]=some (Ans.mk (.tup [.h kB T0.length 0,.int .i64 0]) []
      [T0++[zwz 0 (-1) false ((List.range n.toNat).map fun j=>hD (T1.length+j))],T1++List.replicate n.toNat DS.new.cells]):=by
  rw [zrb]
  unfold zma
  have d1:decide (n < 1)=false:=by simp; omega
  have d2:decide (n > 8)=false:=by simp; omega
  rw [d1,zay,d2,zay,zqi]
  have hn:n=(n.toNat:Int):=by omega
  let st:Nat→(Nat×Int×Int×PUnit)×List (List D)×List (List D)×PUnit:=fun k=>
    ((T0.length,n,(k:Int),PUnit.unit),T0++[zwz 0 (-1) false ((List.range k).map fun j=>hD (T1.length+j))],T1++List.replicate k DS.new.cells,PUnit.unit)
  have h00:st 0=((T0.length,n,0,PUnit.unit),T0++[[D.own0 (D.int IntKind.i64 (0:Int)),D.own0 (D.int IntKind.i64 (-1:Int)),D.own0 (D.bool false),D.own0 (D.sl Tag.nil [])]],T1,PUnit.unit):=by
    simp [st,zwz,D.own0]
  rw [←h00]
  refine zb6 st n.toNat (by omega) ?_ ?_
  · intro again k hk
    dsimp only [st]
    have hd:decide ((k:Int) < n)=true:=by simp; omega
    have hrow:(T0++[zwz 0 (-1) false ((List.range k).map fun j=>hD (T1.length+j))])[T0.length]? =some (zwz 0 (-1) false ((List.range k).map fun j=>hD (T1.length+j))):=by simp
    have hnew:=zFE (T1++List.replicate k DS.new.cells)
    have hl:(T1++List.replicate k DS.new.cells).length=T1.length+k:=by simp
    rw [hl,List.append_assoc,zru] at hnew
    rw [hd,za8,zai hrow]
    unfold zwz at hrow ⊢
    rw [zgG,zgG,zgG,zqh,zbU,hnew,zah,zel,zr7,zel,zab (by rfl),zab (by rfl),zai hrow,zgG,zgG,zgG,zqh,zbU]
    rw [zab (by simp; omega),zab (by rfl),zab (by rfl),zqi,zvY hrow]
    have hset:=zkT hrow (List.set [D.int .i64 0,.int .i64 (-1),.bool false,.sl .own ((List.range k).map fun j=>hD (T1.length+j))] 3 .undef)
    have hsn:=zwA T1.length k
    unfold hD at hsn
    have hH:(List.map (fun j=>hD (T1.length+j)) (List.range k))++[D.h kD (T1.length+k) 0]=(List.range (k+1)).map fun j=>hD (T1.length+j):=hsn
    dsimp only
    rw [zai hset,zab (by simp),hH,zab (by simp)]
    have e1:((List.range (k+1)).map fun j=>hD (T1.length+j))=((List.range (k+1)).map fun j=>T1.length+j).map hD:=by rw [List.map_map]; rfl
    rw [e1,zab (zyu _),zab (zAt _),zqi,zaQ,zaq (by omega) (by omega),zdJ hset,←e1,List.set_set]
    simp [zwz]
  · intro again
    dsimp only [st]
    have hd:decide (((n.toNat:Nat):Int) < n)=false:=by simp; omega
    rw [hd,zay]
def nIdx (T1:Tb) (n:Nat):List Nat:=(List.range n).map fun j=>T1.length+j
def nT0 (T0 T1:Tb) (n:Nat):Tb:=T0++[bRow (Ben.new n) (nIdx T1 n)]
def nT1 (T1:Tb) (n:Nat):Tb:=T1++List.replicate n DS.new.cells
theorem zDO (T1:Tb) (n:Nat):((List.range n).map fun j=>hD (T1.length+j))=(nIdx T1 n).map hD:=by unfold nIdx; rw [List.map_map]; rfl
theorem zAu (T0 T1:Tb) {n:Nat} (h8:n≤8):At (nT0 T0 T1 n) (nT1 T1 n) T0.length (nIdx T1 n) (Ben.new n):=by
  refine ⟨by simp [nT0],?_,fun i hi=>?_,by simp [nIdx,Ben.new],zsc h8⟩
  · unfold List.Nodup nIdx
    rw [List.pairwise_map]
    exact List.Pairwise.imp (fun h e=>h (by omega)) (List.nodup_range (n:=n))
  · unfold nIdx at hi
    obtain ⟨j,hj,rfl⟩:=List.mem_map.1 hi
    have:=List.mem_range.1 hj
    simp [nT1]; omega
theorem zE0 (T0 T1:Tb) (n:Nat):P0 (nT0 T0 T1 n) T0.length (nIdx T1 n) (Ben.new n)=nT0 T0 T1 n:=zDw (by unfold nT0; simp)
theorem zE1 (T1:Tb) (n:Nat):P1 (nT1 T1 n) (nIdx T1 n) (Ben.new n)=nT1 T1 n:=by
  unfold P1
  show putL _ _ _++[]=_
  rw [List.append_nil]
  refine zuZ fun j i c h1 h2=>?_
  have hj:j < n:=by have:=zaT h1; simpa [nIdx] using this
  have e1:i=T1.length+j:=by
    unfold nIdx at h1
    rw [List.getElem?_map,List.getElem?_range hj] at h1
    simpa using h1.symm
  have e2:c=DS.new.cells:=by
    have:(Ben.new n).ds.map DS.cells=List.replicate n DS.new.cells:=by unfold Ben.new; simp
    rw [this] at h2
    rw [List.getElem?_replicate,if_pos hj] at h2
    exact (Option.some.inj h2).symm
  subst e1 e2
  unfold nT1
  rw [List.getElem?_append_right (by omega),show T1.length+j - T1.length=j by omega,List.getElem?_replicate,if_pos hj]
theorem zE2 (T0 T1:Tb) {n:Nat} (h0:1≤n) (h8:n≤8):
    zbq [.int .i64 n] [T0,T1]=some (Ans.mk (.tup [.h kB T0.length 0,.int .i64 0]) [] [P0 (nT0 T0 T1 n) T0.length (nIdx T1 n) (Ben.new n),P1 (nT1 T1 n) (nIdx T1 n) (Ben.new n)]):=by
  rw [zB1 T0 T1 (by omega) (by omega),zE0,zE1,Int.toNat_natCast,zDO]
  rfl
structure Still (B:Ben):Prop where
  ok:B.Ok
  down:B.down=false
  ds:∀ s∈B.ds,s.failed=false∧s.pend=[]
theorem Still.dk {B:Ben} (h:Still B) (d:Int):(B.dk d).failed=false∧(B.dk d).pend=[]:=by
  unfold Ben.dk
  cases e:B.ds[d.toNat]? with
  | none=>exact ⟨rfl,rfl⟩
  | some s=>exact h.ds s (List.mem_of_getElem? e)
theorem Still.failed {B:Ben} (h:Still B) (d:Int):B.failed d=false:=by unfold Ben.failed; rw [(h.dk d).1,Bool.and_false]
theorem zvw {n:Nat} (h:n≤8):Still (Ben.new n):=⟨zsc h,rfl,fun s hs=>by
  unfold Ben.new at hs
  rw [(List.mem_replicate.1 hs).2]; exact ⟨rfl,rfl⟩⟩
theorem zE3 (n:Nat) (d:Int):(Ben.new n).dk d=DS.new:=by
  unfold Ben.dk Ben.new
  dsimp only
  rw [List.getElem?_replicate]
  split<;>rfl
theorem zB2 {a:Nat} (ha:a < 52):DS.new.base a=zdZ:=by
  unfold DS.base
  show ((List.replicate 1664 (0:Int)).drop (a*32)).take 32=_
  rw [List.drop_replicate,List.take_replicate]
  unfold zdZ
  congr 1
  omega
theorem zAv (n:Nat) (d:Int) {a:Int} (a0:0≤a) (a1:a < 52):(Ben.new n).cur d a=zdZ:=by
  unfold Ben.cur
  rw [zE3]
  show look [] a (DS.new.base a.toNat)=_
  rw [zpr,zB2 (by omega)]
section
variable {B:Ben} {d a:Int} {x:List Int}
theorem zvx (h:Still B) (hx:Sec x):Still (B.damage d a x).2∧(B.damage d a x).2.n=B.n∧(B.damage d a x).2.w=B.w∧(B.damage d a x).2.left=B.left:=by
  refine ⟨⟨(zuX h.ok (.inl hx)).ok,?_,?_⟩,(zuX (d:=d) (a:=a) h.ok (.inl hx)).n,?_,?_⟩
  · unfold Ben.damage; split<;>exact h.down
  · unfold Ben.damage
    split
    · intro s hs
      rcases List.mem_or_eq_of_mem_set hs with hs | hs
      · exact h.ds s hs
      · subst hs
        unfold DS.damage
        dsimp only
        split
        · exact h.dk d
        · exact h.dk d
    · exact h.ds
  · unfold Ben.damage; split<;>rfl
  · unfold Ben.damage; split<;>rfl
theorem zyv (h:Still B) (hd:B.is d=true) (a0:0≤a) (a1:a < 52) (hx:Sec x) {e b:Int} (e0:0≤e) (b0:0≤b) (b1:b < 52):
    (B.damage d a x).1=0∧(B.damage d a x).2.cur e b=if e=d∧b=a then x else B.cur e b:=by
  have hk:=h.dk d
  have hw:(B.dk d).mayW a x=0:=zzS (znX.2 ⟨hk.1,a0,a1⟩) hx.len
  have e1:(B.dk d).damage a x=(0,(B.dk d).setSec a.toNat x):=by unfold DS.damage; rw [hw,if_pos rfl]
  unfold Ben.damage
  rw [if_pos hd,e1]
  refine ⟨rfl,?_⟩
  unfold Ben.cur
  rw [zgI hd e0]
  by_cases he:e=d
  · subst he
    rw [if_pos rfl]
    have hp:((B.dk e).setSec a.toNat x).pend=[]:=hk.2
    unfold DS.sec
    rw [hp,hk.2,zpr,zpr,zqo (zk9 h.ok e).1.len (by omega) hx.len b.toNat (by omega)]
    by_cases hb:b=a
    · rw [if_pos (by omega),if_pos ⟨rfl,hb⟩]
    · rw [if_neg (by omega),if_neg (fun q=>hb q.2)]
  · rw [if_neg he,if_neg (fun q=>he q.1)]
end
def Ben.dmgs (B:Ben) (a:Int) (xs:List (List Int)):Nat→Ben
  | 0=>B
  | k+1=>((B.dmgs a xs k).damage (k:Int) a (xs.getD k [])).2
def rowL (g:Geo) (l:List Int) (r:Nat):List (List Int):=secL (l.drop (min r l.length)) g.width.toNat
theorem zk4 {g:Geo} (hk:g.ok=true) (l:List Int) (r:Nat):Row g (rowL g l r):=⟨by have:=zd1 hk; simp [rowL]; omega,ztQ _ _⟩
def zkF (gs:Nat→Geo) (l:List Int) (n:Nat):Nat→Ben
  | 0=>.new n
  | r+1=>(zkF gs l n r).dmgs (36+(r:Int)) (zcC (gs r) r (rowL (gs r) l r)) (min (gs r).d.toNat n)
structure Filld (gs:Nat→Geo) (l:List Int) (n:Nat) (R:Nat) (B:Ben):Prop where
  still:Still B
  num:B.n=n
  w:B.w=0
  left:B.left= -1
  cur:∀ d a:Int,0≤d→0≤a→a < 52→B.cur d a=if 36≤a∧a < 36+R∧d < (gs (a - 36).toNat).d∧d < n then atR (gs (a - 36).toNat) (a - 36) (rowL (gs (a - 36).toNat) l (a - 36).toNat) d else zdZ
theorem zq5 {g:Geo} {r:Int} {data:List (List Int)} {d:Nat} (h:(d:Int) < g.d):(zcC g r data).getD d []=atR g r data d:=by
  rw [List.getD_eq_getElem?_getD,zgt h]; rfl
theorem zow {gs:Nat→Geo} {l:List Int} {n R:Nat} {B:Ben} (h:Filld gs l n R B) (hR:R < 16) (hk:(gs R).ok=true):∀ k,k≤min (gs R).d.toNat n→
    Still (B.dmgs (36+(R:Int)) (zcC (gs R) R (rowL (gs R) l R)) k)∧(B.dmgs (36+(R:Int)) (zcC (gs R) R (rowL (gs R) l R)) k).n=n∧(B.dmgs (36+(R:Int)) (zcC (gs R) R (rowL (gs R) l R)) k).w=0∧(B.dmgs (36+(R:Int)) (zcC (gs R) R (rowL (gs R) l R)) k).left= -1∧
    ∀ d a:Int,0≤d→0≤a→a < 52→(B.dmgs (36+(R:Int)) (zcC (gs R) R (rowL (gs R) l R)) k).cur d a=if a=36+R∧d < k then atR (gs R) R (rowL (gs R) l R) d else B.cur d a
  | 0,_=>⟨h.still,h.num,h.w,h.left,fun d a d0 a0 a1=>by rw [if_neg (by omega)]; rfl⟩
  | k+1,hk'=>by
    obtain ⟨i1,i2,i3,i4,i5⟩:=zow h hR hk k (by omega)
    have hr:zcB (gs R) (R:Int)=true:=zbW.2 ⟨hk,by omega,by omega⟩
    have hsec:=zu6 hr (zk4 hk l R) (d:=(k:Int)) (by omega) (by omega)
    have hg:=zq5 (g:=gs R) (r:=R) (data:=rowL (gs R) l R) (d:=k) (by omega)
    generalize hB:B.dmgs (36+(R:Int)) (zcC (gs R) R (rowL (gs R) l R)) k=C at*
    have hC:B.dmgs (36+(R:Int)) (zcC (gs R) R (rowL (gs R) l R)) (k+1)=(C.damage (k:Int) (36+(R:Int)) (atR (gs R) R (rowL (gs R) l R) k)).2:=by
      show ((B.dmgs (36+(R:Int)) (zcC (gs R) R (rowL (gs R) l R)) k).damage (k:Int) (36+(R:Int)) ((zcC (gs R) R (rowL (gs R) l R)).getD k [])).2=_
      rw [hB,hg]
    rw [hC]
    have hd:C.is (k:Int)=true:=zfJ.2 ⟨by omega,by rw [i2]; omega⟩
    obtain ⟨j1,j2,j3,j4⟩:=zvx (d:=(k:Int)) (a:=36+(R:Int)) i1 hsec
    refine ⟨j1,j2.trans i2,j3.trans i3,j4.trans i4,fun d a d0 a0 a1=>?_⟩
    rw [(zyv i1 hd (by omega) (by omega) hsec d0 a0 a1).2,i5 d a d0 a0 a1]
    by_cases ha:a=36+(R:Int)
    · by_cases hdk:d=k
      · subst hdk; rw [if_pos ⟨rfl,ha⟩,if_pos ⟨ha,by omega⟩]
      · rw [if_neg (fun q=>hdk q.1)]
        by_cases hlt:d < k
        · rw [if_pos ⟨ha,hlt⟩,if_pos ⟨ha,by omega⟩]
        · rw [if_neg (fun q=>hlt q.2),if_neg (fun q=>by omega)]
    · rw [if_neg (fun q=>ha q.2),if_neg (fun q=>ha q.1),if_neg (fun q=>ha q.1)]
theorem zkG {gs:Nat→Geo} {l:List Int} {n:Nat} (n8:n≤8) (hk:∀ r,(gs r).ok=true):∀ R,R≤16→Filld gs l n R (zkF gs l n R)
  | 0,_=>⟨zvw n8,by simp [zkF,Ben.new,Ben.n],rfl,rfl,fun d a d0 a0 a1=>by rw [if_neg (by omega)]; exact zAv n d a0 a1⟩
  | R+1,hR=>by
    have ih:=zkG (l:=l) n8 hk R (by omega)
    obtain ⟨i1,i2,i3,i4,i5⟩:=zow ih (by omega) (hk R) (min (gs R).d.toNat n) (Nat.le_refl _)
    refine ⟨i1,i2,i3,i4,fun d a d0 a0 a1=>?_⟩
    show ((zkF gs l n R).dmgs (36+(R:Int)) (zcC (gs R) R (rowL (gs R) l R)) (min (gs R).d.toNat n)).cur d a=_
    rw [i5 d a d0 a0 a1,ih.cur d a d0 a0 a1]
    have hdd:=ok_d (hk R)
    by_cases ha:a=36+(R:Int)
    · have e:(a - 36).toNat=R:=by omega
      have e2:a - 36=(R:Int):=by omega
      rw [e,e2]
      by_cases hlt:d < (gs R).d∧d < n
      · rw [if_pos ⟨ha,by omega⟩,if_pos ⟨by omega,by omega,hlt.1,hlt.2⟩]
      · rw [if_neg (fun q=>hlt ⟨by omega,by omega⟩),if_neg (fun q=>by omega),if_neg (fun q=>hlt ⟨q.2.2.1,q.2.2.2⟩)]
    · rw [if_neg (fun q=>ha q.1)]
      by_cases hc:36≤a∧a < 36+(R:Int)∧d < (gs (a - 36).toNat).d∧d < n
      · rw [if_pos hc,if_pos ⟨hc.1,by omega,hc.2.2.1,hc.2.2.2⟩]
      · rw [if_neg hc,if_neg (fun q=>hc ⟨q.1,by omega,q.2.2.1,q.2.2.2⟩)]
end Wf

namespace Wf
open Go Go.RowKit Go.Proofs
set_option linter.unusedSimpArgs false
set_option linter.unusedVariables false
set_option maxHeartbeats 4000000
theorem zAw (l:List Int) (n:Nat):(intL l).drop n=intL (l.drop n):=by simp [intL,List.map_drop]
theorem zsv (l:List Int):zvI 1 (intL l)=true:=by simp [zvI,intL,D.cell,D.width]
theorem zvy (l:List Int) (r:Int) (r0:0≤r):cutI (min r (l.length:Int)) (l.length:Int) (intL l)=intL (l.drop (min r.toNat l.length)):=by
  unfold cutI
  have:(min r (l.length:Int)).toNat=min r.toNat l.length:=by omega
  rw [this,zAw,List.take_of_length_le (by rw [zfB]; simp; omega)]
theorem zAx (g:Geo) (hk:g.ok=true) (r:Int) (r0:0≤r) (tg:Tag) (l:List Int):
    zbo [.agg [.int .i64 g.l,.int .i64 g.d,.int .i64 g.c],.int .i64 r,.sl tg (intL l)]=some (.sl .own (pL (fP (rowL g l r.toNat)))):=by
  rw [zkv,zjS]
  unfold ze4
  have hw:=zd1 hk
  have hsp:=fun tg=>zkE tg (l.drop (min r.toNat l.length)) (n:=g.width.toNat) (by omega)
  rw [show ((g.width.toNat:Nat):Int)=g.width by omega] at hsp
  have hm1:0≤min r (l.length:Int):=by omega
  have hm2:min r (l.length:Int)≤(l.length:Int):=by omega
  have hfree:=zfz (rowL g l r.toNat)
  unfold rowL at hfree ⊢
  simp (disch:=first | omega | assumption | (simp; done) | fail) [-List.all_eq_true,zfB,hm1,hm2,zsv,zil,zvy l r r0,hsp,hfree]
section
variable {T0 T1:Tb}
theorem zE4 {g:Geo} (hk:g.ok=true) {n:Nat} (n0:1≤n) (n8:n≤8) (tg:Tag) (l:List Int):
    zaZ [.agg [.int .i64 g.l,.int .i64 g.d,.int .i64 g.c],.int .i64 n,.sl tg (intL l)] [T0,T1]=
      some (Ans.mk (.h kB T0.length 0) [] [P0 (nT0 T0 T1 n) T0.length (nIdx T1 n) (zkF (fun _=>g) l n 16),P1 (nT1 T1 n) (nIdx T1 n) (zkF (fun _=>g) l n 16)]):=by
  rw [ziM,zjS]
  unfold zea
  have hat0:=zAu T0 T1 n8
  have hnew:=zE2 T0 T1 n0 n8
  generalize nT0 T0 T1 n=U0 at*
  generalize nT1 T1 n=U1 at*
  generalize nIdx T1 n=idx at*
  have hw:=zd1 hk
  have hdd:=ok_d hk
  have hF:=fun R hR=>zkG (gs:=fun _=>g) (l:=l) n8 (fun _=>hk) R hR
  have hat:∀ B:Ben,B.Ok→B.n=n→At U0 U1 T0.length idx B:=fun B hB hn=>⟨hat0.b,hat0.nd,hat0.lt,by rw [hat0.len]; unfold Ben.n at hn; simp [Ben.new]; omega,hB⟩
  simp (disch:=first | omega | assumption | (simp; done) | fail) only [hnew,zah,zel,zr7,zmY,zq1,zbH,zCj,zDe,zay,show zi2 (D.h kB T0.length 0)=true from rfl,zab]
  let st:Nat→(Int×List D×(Int×Int×Int×PUnit)×D×Int×PUnit)×List (List D)×List (List D)×PUnit:=fun r=>(((n:Int),intL l,(g.l,g.d,g.c,PUnit.unit),.h kB T0.length 0,(r:Int),PUnit.unit),P0 U0 T0.length idx (zkF (fun _=>g) l n r),P1 U1 idx (zkF (fun _=>g) l n r),PUnit.unit)
  show zce _ (st 0)=_
  refine zcy st 16 (by omega) ?_ ?_
  · intro again r hr
    dsimp only [st]
    have hfine:zcB g (r:Int)=true:=zbW.2 ⟨hk,by omega,by omega⟩
    have hm1:0≤min (r:Int) (l.length:Int):=by omega
    have hm2:min (r:Int) (l.length:Int)≤(l.length:Int):=by omega
    have hsp:=fun tg=>zkE tg (l.drop (min r l.length)) (n:=g.width.toNat) (by omega)
    rw [show ((g.width.toNat:Nat):Int)=g.width by omega] at hsp
    have hc:=zvy l (r:Int) (by omega)
    rw [Int.toNat_natCast] at hc
    have hfill:=ztS g (r:Int) .lent (ps:=fP (rowL g l r)) (by simp [rowL]; omega) (by intro x hx; obtain ⟨y,hy,rfl⟩:=List.mem_map.1 hx; exact ztQ _ _ y hy)
    rw [zoW,zqw hfine (zk4 hk l r)] at hfill
    have hrl:=zhY g (r:Int) (rowL g l r)
    have hr16:(r:Int) < 16:=by omega
    unfold rowL at hfill
    simp (disch:=first | omega | assumption | (simp; done) | fail) only [zEz,zaQ,zfB,zab,zsv,zil,zah,zbH,hc,hsp,zbU,zc7,Nat.zero_add,Nat.le_refl,hfill,solD,zmY,zq1,zcY]
    have hxs:secL (l.drop (min r l.length)) g.width.toNat=rowL g l r:=rfl
    rw [hxs]
    have hFr:=hF r (by omega)
    have hdm:=fun k hk'=>zow (gs:=fun _=>g) hFr hr hk k hk'
    have hnx:zkF (fun _=>g) l n (r+1)=(zkF (fun _=>g) l n r).dmgs (36+(r:Int)) (zcC g r (rowL g l r)) (min g.d.toNat n):=rfl
    rw [hnx]
    generalize zkF (fun _=>g) l n r=B at*
    have h0:∀ k,k≤min g.d.toNat n→P0 U0 T0.length idx (B.dmgs (36+(r:Int)) (zcC g r (rowL g l r)) k)=P0 U0 T0.length idx B:=by
      intro k hk'
      induction k with
      | zero=>rfl
      | succ k ih=>
        rw [←ih (by omega)]
        show P0 U0 T0.length idx ((B.dmgs (36+(r:Int)) (zcC g r (rowL g l r)) k).damage _ _ _).2=_
        unfold Ben.damage
        split<;>rfl
    let s2:Nat→(Int×List D×(Int×Int×Int×PUnit)×D×Int×List D×Bool×Int×PUnit)×List (List D)×List (List D)×PUnit:=fun k=>
      (((n:Int),intL l,(g.l,g.d,g.c,PUnit.unit),.h kB T0.length 0,(r:Int),pL (fP (zcC g r (rowL g l r))),true,(k:Int),PUnit.unit),P0 U0 T0.length idx B,P1 U1 idx (B.dmgs (36+(r:Int)) (zcC g r (rowL g l r)) k),PUnit.unit)
    show zce _ (s2 0)=_
    refine zcy s2 (min g.d.toNat n) (by omega) ?_ ?_
    · intro again2 k hk'
      dsimp only [s2]
      obtain ⟨i1,i2,i3,i4,i5⟩:=hdm k (by omega)
      have hA:=hat _ i1.ok i2
      have hg:(pL (fP (zcC g r (rowL g l r))))[k]? =some (.sl .fresh (uL (atR g r (rowL g l r) k))):=zcv (zsq (zgt (by omega)))
      have hb:=zBO hA (by omega) (k:Int) (a:=36+(r:Int)) (by intro w hw; rw [(i1.dk _).2] at hw; cases hw) .fresh (atR g r (rowL g l r) k)
      rw [h0 k (by omega)] at hb
      have hgd:(zcC g r (rowL g l r)).getD k []=atR g r (rowL g l r) k:=zq5 (by omega)
      have h1:(k:Int) < ((g.d.toNat:Nat):Int):=by omega
      have h2:(k:Int) < (n:Int):=by omega
      have h3:k < g.d.toNat:=by omega
      simp (disch:=first | omega | assumption | (simp; done) | fail) [hrl,h1,h2,h3,zai hg,hb,zaq]
      rw [←hgd]; rfl
    · intro again2
      dsimp only [s2]
      rw [h0 _ (Nat.le_refl _)]
      by_cases h1:min g.d.toNat n < g.d.toNat
      · have h2:¬ ((min g.d.toNat n:Nat):Int) < (n:Int):=by omega
        have h1':((min g.d.toNat n:Nat):Int) < ((g.d.toNat:Nat):Int):=by omega
        simp (disch:=first | omega | assumption | (simp; done) | fail) only [za8,hrl,zvp,zAl,zab,Nat.zero_add,Nat.le_refl,zEz,zBg,zuS]
        rw [zaq (by omega) (by omega)]; rfl
      · have h1':¬ ((min g.d.toNat n:Nat):Int) < ((g.d.toNat:Nat):Int):=by omega
        simp (disch:=first | omega | assumption | (simp; done) | fail) only [za8,hrl,zvp,zAl,zab,Nat.zero_add,Nat.le_refl,zBg,zuS]
        rw [zaq (by omega) (by omega)]; rfl
  · intro again
    dsimp only [st]
    simp (disch:=first | omega | assumption | (simp; done) | fail) only [zBg,show (D.h kB T0.length 0).free=true from rfl,zab]
end
end Wf

namespace Wf
open Go Go.RowKit Go.Proofs
set_option linter.unusedSimpArgs false
set_option linter.unusedVariables false
set_option maxHeartbeats 4000000
section
variable {B:Ben} {d a:Int}
theorem zB3 (hd:B.is d=true) {e b:Int} (e0:0≤e) (hne:e≠d):(B.fail d).2.cur e b=B.cur e b:=by
  unfold Ben.fail
  rw [if_pos hd]
  unfold Ben.cur
  rw [zgI hd e0,if_neg hne]
theorem zwB (hd:B.is d=true) {e:Int} (he:B.is e=true):(B.fail d).2.failed e=(decide (e=d) || B.failed e):=by
  unfold Ben.fail
  rw [if_pos hd]
  unfold Ben.failed
  rw [zwd,he,zgI hd (zfJ.1 he).1]
  by_cases h:e=d
  · subst h; rw [if_pos rfl,show DS.dead.failed=true from rfl]; simp
  · rw [if_neg h]; simp [h]
theorem zAy (hd:B.is d=true):(B.fail d).1=0∧(B.fail d).2.n=B.n∧(B.fail d).2.down=B.down∧(B.fail d).2.left=B.left∧(B.fail d).2.w=B.w:=by
  unfold Ben.fail
  rw [if_pos hd]
  exact ⟨rfl,by simp,rfl,rfl,rfl⟩
end
theorem zB4 {n:Nat} {d:Int} (d0:0≤d):((List.replicate n true)[d.toNat]?).getD false=decide (d < n):=by
  rw [List.getElem?_replicate]
  by_cases h:d < n
  · rw [if_pos (by omega)]; simp [h]
  · rw [if_neg (by omega)]; simp [h]
theorem zCw {B:Ben} {n:Nat} (hn:B.n=n) {d:Int} (d0:0≤d):B.up (List.replicate n true) d=(decide (d < n) && !B.failed d):=by
  unfold Ben.up
  rw [zB4 d0,hn]
  cases decide (d < (n:Int))<;>simp
theorem zxC (B:Ben) (live:List Bool) (g:Geo) (r:Int) (data:List (List Int)):nW (B.wActs live g r data)≤g.d.toNat:=by
  unfold Ben.wActs
  have:∀ n,nW ((List.range n).flatMap fun (d:Nat)=>if B.up live d then [Act.w d (36+r) (atR g r data d)] else [])≤n:=by
    intro n
    induction n with
    | zero=>simp [nW]
    | succ n ih=>
      rw [List.range_succ,List.flatMap_append,zzX]
      have:nW (List.flatMap (fun (d:Nat)=>if B.up live d then [Act.w d (36+r) (atR g r data d)] else []) [n])≤1:=by
        simp only [List.flatMap_cons,List.flatMap_nil,List.append_nil]
        split
        · exact Nat.le_trans (List.length_filter_le _ _) (by simp)
        · simp [nW]
      omega
  exact this _
theorem ztU (B:Ben) (live:List Bool):nW (B.fActs live)=0:=by
  unfold Ben.fActs nW
  rw [List.length_eq_zero_iff,List.filter_eq_nil_iff]
  intro a ha
  obtain ⟨d,_,ha⟩:=List.mem_flatMap.1 ha
  split at ha
  · rw [List.mem_singleton.1 ha]; simp [Act.isW]
  · cases ha
theorem zwC {B:Ben} (hB:B.Ok) (hd:B.down=false) {live:List Bool} {g:Geo} {r:Int} {data:List (List Int)} (hr:zcB g r=true) (hR:Row g data) (hl:B.left < 0∨8≤B.left):
    B.sWrite live g r data=(0,does B (B.wActs live g r data))∧Does B (B.wActs live g r data):=by
  have hdd:=ok_d (zbW.1 hr).1
  have hn:=zxC B live g r data
  have:=ztm (B.wActs live g r data) hB hd (zxr hr hR) (by omega)
  refine ⟨?_,this⟩
  unfold Ben.sWrite
  rw [zqw hr hR,if_neg (by simp),this.run]
theorem zwD {B:Ben} (hB:B.Ok) (hd:B.down=false) (live:List Bool) (hl:B.left < 0∨0≤B.left):B.sFlush live=(0,does B (B.fActs live))∧Does B (B.fActs live):=by
  have:=ztm (B.fActs live) hB hd zxs (by rw [ztU]; omega)
  exact ⟨this.run,this⟩
theorem zAz {B:Ben} {live:List Bool} (h:Does B (B.fActs live)) {e b:Int} (e0:0≤e) (b0:0≤b) (b1:b < 52):(does B (B.fActs live)).cur e b=B.cur e b:=by
  rw [h.cur e b e0 b0 b1]
  exact znZ (zBA e b) _
theorem zAA {B:Ben} {live:List Bool} {g:Geo} {r:Int} {data:List (List Int)} (h:Does B (B.wActs live g r data)) {e b:Int} (e0:0≤e) (e1:e < g.d) (b0:0≤b) (b1:b < 52):
    (does B (B.wActs live g r data)).cur e b=if b=36+r∧B.up live e=true then atR g r data e else B.cur e b:=by
  rw [h.cur e b e0 b0 b1]
  by_cases hc:b=36+r∧B.up live e=true
  · rw [if_pos hc,hc.1]
    have:=zz3 (B:=B) (live:=live) (g:=g) (r:=r) (data:=data) (d:=e.toNat) (by omega) (by rw [show ((e.toNat:Nat):Int)=e by omega]; exact hc.2) B.cur
    rw [show ((e.toNat:Nat):Int)=e by omega] at this
    exact this
  · rw [if_neg hc]
    refine znZ (zwf ?_) _
    by_cases hb:b=36+r
    · refine .inr ?_
      cases hu:B.up live e
      · rfl
      · exact absurd ⟨hb,hu⟩ hc
    · exact .inl hb
theorem zxD (f:Nat→Int) {n:Nat}:sumK f 32 (List.replicate n zdZ) n=zdZ:=by
  have hs:∀ l∈List.replicate n zdZ,l.length=32:=by intro l hl; rw [(List.mem_replicate.1 hl).2]; exact zm4.len
  have hl:(sumK f 32 (List.replicate n zdZ) n).length=32:=zkW hs (by simp)
  refine zzI (by rw [hl,zm4.len]) fun i hi=>?_
  rw [hl] at hi
  rw [zr9 hs hi (by simp),zjU]
  have:∀ k,k≤n→xsum (fun j=>mul8 (getB ((List.replicate n zdZ).getD j []) i) (f j)) k=0:=by
    intro k
    induction k with
    | zero=>intro _; rfl
    | succ k ih=>
      intro hk
      have e:(List.replicate n zdZ).getD k []=zdZ:=by rw [List.getD_eq_getElem?_getD,List.getElem?_replicate,if_pos (by omega)]; rfl
      show xor8 (xsum _ k) (mul8 (getB ((List.replicate n zdZ).getD k []) i) (f k))=0
      rw [ih (by omega),e,zjU,zm3]; rfl
  exact this n (Nat.le_refl _)
def ziZ (g:Geo):List (List Int):=List.replicate g.width.toNat zdZ
theorem zB5 {g:Geo} (hk:g.ok=true):Row g (ziZ g):=⟨by have:=zd1 hk; simp [ziZ]; omega,fun x hx=>by rw [(List.mem_replicate.1 hx).2]; exact zm4⟩
theorem zDP {g:Geo} {r d:Int} (hr:zcB g r=true) (d0:0≤d) (d1:d < g.d):atR g r (ziZ g) d=zdZ:=by
  unfold atR
  split
  · unfold sumP ziZ; rw [List.length_replicate]; exact zxD _
  · rename_i h1
    split
    · unfold sumQ ziZ; rw [List.length_replicate]; exact zxD _
    · rename_i h2
      obtain ⟨c0,c1,_⟩:=zkZ hr d0 d1 h1 h2
      unfold ziZ
      rw [List.getD_eq_getElem?_getD,List.getElem?_replicate,if_pos (by omega)]; rfl
theorem zB6 {g:Geo} {r:Int} {n:Nat} (hr:zcB g r=true) (hn:n=g.d.toNat):(Ben.new n).sRead (List.replicate n true) g r=(ziZ g,0):=by
  obtain ⟨hk,r0,r1⟩:=zbW.1 hr
  have hdd:=ok_d hk
  have hl:=zhl.1 hk
  have h8:n≤8:=by omega
  have hup:∀ d:Int,0≤d→d < g.d→(Ben.new n).up (List.replicate n true) d=true:=by
    intro d d0 d1
    rw [zCw (by simp [Ben.new,Ben.n]) d0,(zvw h8).failed]
    simp; omega
  rw [zBy hr (zB5 hk) rfl fun d d0 d1 _=>by rw [zAv n d (by omega) (by omega),zDP hr d0 d1]]
  have:(Ben.new n).lostN (List.replicate n true) g=0:=by
    unfold Ben.lostN
    rw [List.countP_eq_zero]
    intro d hd
    have:=List.mem_range.1 hd
    rw [hup d (by omega) (by omega)]; simp
  rw [this,if_pos (by omega)]
theorem zDQ:(List.replicate 32 (D.int IntKind.u8 0))=uL zdZ:=zoO 32 0
theorem zAB:za6 []=some (.bool true):=by
  have e:=zjv
  rw [e,zab (by rfl)]
  unfold zez
  have hnew:=zE2 [] [] (n:=3) (by omega) (by omega)
  have hat:=zAu [] [] (n:=3) (by omega)
  generalize nT0 [] [] 3=U at*
  generalize nT1 [] 3=V at*
  generalize nIdx [] 3=idx at*
  let g:Geo:=⟨5,3,1⟩
  have hr:zcB g 4=true:=by decide
  have hrd:=zq4 hat (by simp [Ben.new]) .full [true,true,true] g 4
  have hx:(Ben.new 3).sRead [true,true,true] g 4=(ziZ g,0):=zB6 (n:=3) hr (by decide)
  rw [hx] at hrd
  have hz:ziZ g=[zdZ,zdZ]:=rfl
  rw [hz] at hrd
  have hrd':zbO [.h kB 0 0,.sl .full [.bool true,.bool true,.bool true],.agg [.int .i64 5,.int .i64 3,.int .i64 1],.int .i64 4] [P0 U 0 idx (Ben.new 3),P1 V idx (Ben.new 3)]=some (Ans.mk (.tup [.sl .own (pL (fP [zdZ,zdZ])),.int .i64 0]) [] []):=hrd
  have hp:pL (fP [zdZ,zdZ])=[.sl .fresh (uL zdZ),.sl .fresh (uL zdZ)]:=rfl
  rw [hp] at hrd'
  have hs:=zqT .fresh .lent zdZ zdZ (by decide)
  have hnew':zbq [.int .i64 3] [[],[]]=some (Ans.mk (.tup [.h kB 0 0,.int .i64 0]) [] [P0 U 0 idx (Ben.new 3),P1 V idx (Ben.new 3)]):=hnew
  have hz32:uL zdZ=List.replicate 32 (D.int IntKind.u8 0):=zDQ.symm
  rw [hz32] at hs hrd'
  simp only [List.replicate] at hs hrd'
  simp [hnew',hrd',zi2,hs]
end Wf

namespace Wf
open Go Go.RowKit Go.Proofs
set_option linter.unusedSimpArgs false
set_option linter.unusedVariables false
set_option maxHeartbeats 4000000
theorem zyw (l:List Bool):(l.map D.bool).all D.free=true:=by rw [List.all_map,List.all_eq_true]; intro b _; rfl
theorem zyx {d k:Nat} (hk:k < d):((List.range d).map fun i=>D.bool (decide (i < k))).set k (.bool true)=(List.range d).map fun i=>D.bool (decide (i < k+1)):=by
  apply List.ext_getElem?
  intro j
  rw [List.getElem?_set]
  by_cases hj:j < d
  · by_cases hjk:k=j
    · subst hjk; simp [hj]
    · rw [if_neg hjk]
      simp only [List.getElem?_map,List.getElem?_range hj,Option.map_some,Option.some.injEq,D.bool.injEq,decide_eq_decide]
      omega
  · have h1:k≠j:=by omega
    rw [if_neg h1,List.getElem?_eq_none (by simp; omega),List.getElem?_eq_none (by simp; omega)]
end Wf

namespace Wf
open Go Go.RowKit
universe u
def idf {α:Sort u} (a:α):α:=a
@[simp] theorem zdn {α:Sort u} (a:α):idf a=a:=congrFun (funext fun _=>rfl) a
section
variable {R α β:Type}
@[congr high] theorem zFk {b b':Bool} {x y:Option R} (h:idf b=b'):brK b x y=brK b' x y:=by rw [zdn] at h; rw [h]
@[congr high] theorem zD8 {x x':Option α} {f:α→Option R} (h:idf x=x'):zat x f=zat x' f:=by rw [zdn] at h; rw [h]
@[congr high] theorem zFl {c c':Prop} [d:Decidable c] [d':Decidable c'] {x:Option R} (h:idf c=c'):sif c x=sif c' x:=by rw [zdn] at h; subst h; congr
@[congr high] theorem zE5 {n n':Int} {f:Int→Option R} (h:idf n=n'):letN n f=letN n' f:=by rw [zdn] at h; rw [h]
@[congr high] theorem zE6 {l l':List α} {i i':Nat} {f:α→Option R} (h:idf l=l') (h':idf i=i'):getK l i f=getK l' i' f:=by rw [zdn] at h h'; rw [h,h']
@[congr high] theorem zFm {k:IntKind} {d d':D} {f:Int→Option R} (h:idf d=d'):asI k d f=asI k d' f:=by rw [zdn] at h; rw [h]
@[congr high] theorem zFn {d d':D} {f:Bool→Option R} (h:idf d=d'):asB d f=asB d' f:=by rw [zdn] at h; rw [h]
@[congr high] theorem zFo {d d':D} {f:ByteArray→Option R} (h:idf d=d'):asS d f=asS d' f:=by rw [zdn] at h; rw [h]
@[congr high] theorem zE7 {d d':D} {f:Tag→List D→Option R} (h:idf d=d'):asSl d f=asSl d' f:=by rw [zdn] at h; rw [h]
@[congr high] theorem zD9 {d d':D} {f:List D→Option R} (h:idf d=d'):za4 d f=za4 d' f:=by rw [zdn] at h; rw [h]
@[congr high] theorem zDR {d d':D} {f:List D→Option R} (h:idf d=d'):zlD d f=zlD d' f:=by rw [zdn] at h; rw [h]
@[congr high] theorem zEa {d d':D} {f:List D→Option R} (h:idf d=d'):asAgg d f=asAgg d' f:=by rw [zdn] at h; rw [h]
@[congr high] theorem zEb {d d':D} {f:List D→Option R} (h:idf d=d'):zeq d f=zeq d' f:=by rw [zdn] at h; rw [h]
@[congr high] theorem zE8 {d d':D} {f:D→Option R} (h:idf d=d'):asAt d f=asAt d' f:=by rw [zdn] at h; rw [h]
@[congr high] theorem zEc {d d':List D} {f:D→Option R} (h:idf d=d'):zzf d f=zzf d' f:=by rw [zdn] at h; rw [h]
@[congr high] theorem zFp {k:Nat} {d d':D} {f:Nat→Option R} (h:idf d=d'):asH k d f=asH k d' f:=by rw [zdn] at h; rw [h]
@[congr high] theorem zEd {d d':D} {f:Bool→Option R} (h:idf d=d'):znL d f=znL d' f:=by rw [zdn] at h; rw [h]
@[congr high] theorem zDS {d d':D} {f:Bool→Option R} (h:idf d=d'):zpX d f=zpX d' f:=by rw [zdn] at h; rw [h]
@[congr high] theorem zDT {kk:MK} {d d':D} {f:List (Int×D)→Option R} (h:idf d=d'):zhh kk d f=zhh kk d' f:=by rw [zdn] at h; rw [h]
@[congr high] theorem zEe {kk:MK} {d d':D} {f:List (Int×D)→Option R} (h:idf d=d'):zpY kk d f=zpY kk d' f:=by rw [zdn] at h; rw [h]
@[congr high] theorem zE9 {T T':Tb} {f:Tb→Option R} (h:idf T=T'):letT T f=letT T' f:=by rw [zdn] at h; rw [h]
@[congr high] theorem zEf {l l':List α} {f:α→List α→Option R} (h:idf l=l'):zer l f=zer l' f:=by rw [zdn] at h; rw [h]
@[congr high] theorem zFa {l l':List α} {x:Option R} (h:idf l=l'):nilK l x=nilK l' x:=by rw [zdn] at h; rw [h]
@[congr high] theorem zB7 {ls:List Lf} {d d':List D} {f:LfT ls→Option R} (h:idf d=d'):zaB ls d f=zaB ls d' f:=by rw [zdn] at h; rw [h]
@[congr high] theorem zEg {B:(α→Option R)→α→Option R} {a a':α} (h:idf a=a'):zce B a=zce B a':=by rw [zdn] at h; rw [h]
end
@[simp] theorem zFq (k i:Nat):zi2 (.h k i 0)=true:=rfl
@[simp] theorem zFR (k i:Nat):D.free (.h k i 0)=true:=rfl
@[simp] theorem zCx {R:Type} (a b:D) (f:LfT [.any,.any]→Option R):zaB [.any,.any] [a,b] f=f (a,b,()):=by rw [zeG,zeG,zhj]
@[simp] theorem zFr {β:Type} {l:List β} {n:Nat} (h:l.length=n):cut 0 n l=l:=by subst h; exact zc7 l
end Wf

namespace Wf
open Go Go.RowKit Go.Proofs
set_option linter.unusedSimpArgs false
set_option linter.unusedVariables false
set_option maxHeartbeats 4000000
theorem zAC {T0:Tb} {b:Nat} {idx:List Nat}:∀ (l:List Act) (B:Ben),(∀ a∈l,a.isW=false)→P0 T0 b idx (does B l)=P0 T0 b idx B
  | [],B,_=>rfl
  | a::l,B,h=>by
    show P0 T0 b idx (does (B.does1 a) l)=_
    rw [zAC l _ fun a ha=>h a (List.mem_cons_of_mem _ ha)]
    have:=h a (List.mem_cons_self ..)
    cases a with
    | w d a x=>cases this
    | f d=>rfl
theorem zDU (B:Ben) (live:List Bool):∀ a∈B.fActs live,a.isW=false:=by
  intro a ha
  unfold Ben.fActs at ha
  obtain ⟨e,he,ha⟩:=List.mem_flatMap.1 ha
  split at ha
  · rw [List.mem_singleton.1 ha]; rfl
  · cases ha
structure Run (U V:Tb) (b:Nat) (idx:List Nat) (B:Ben) (n:Nat) (K:Int):Prop where
  at':At U V b idx B
  num:B.n=n
  down:B.down=false
  left:B.left= -1
  w:B.w≤K
theorem Run.mono {U V:Tb} {b:Nat} {idx:List Nat} {B:Ben} {n:Nat} {K L:Int} (h:Run U V b idx B n K) (hk:K≤L):Run U V b idx B n L:=⟨h.at',h.num,h.down,h.left,by have:=h.w; omega⟩
theorem zyy (T0 T1:Tb) {g:Geo} (hk:g.ok=true) {n:Nat} (n0:1≤n) (n8:n≤8) (tg:Tag) (l:List Int):∃ U V idx B,
    zaZ [.agg [.int .i64 g.l,.int .i64 g.d,.int .i64 g.c],.int .i64 n,.sl tg (intL l)] [T0,T1]=some (Ans.mk (.h kB T0.length 0) [] [P0 U T0.length idx B,P1 V idx B])∧
    Run U V T0.length idx B n 0∧Still B∧B.w=0∧(∀ d s:Int,0≤d→d < g.d→d < n→0≤s→s < 16→B.cur d (36+s)=atR g s (rowL g l s.toNat) d)∧(∀ d a:Int,0≤d→0≤a→a < 36∨g.d≤d→a < 52→B.cur d a=zdZ):=by
  have hF:=zkG (gs:=fun _=>g) (l:=l) n8 (fun _=>hk) 16 (by omega)
  have hat0:=zAu T0 T1 n8
  refine ⟨_,_,_,_,zE4 hk n0 n8 tg l,⟨⟨hat0.b,hat0.nd,hat0.lt,?_,hF.still.ok⟩,hF.num,hF.still.down,hF.left,by rw [hF.w]; omega⟩,hF.still,hF.w,fun d s d0 d1 d2 s0 s1=>?_,fun d a d0 a0 ha a1=>?_⟩
  · have:=hF.num; unfold Ben.n at this; rw [hat0.len]; simp [Ben.new]; omega
  · rw [hF.cur d (36+s) d0 (by omega) (by omega),show (36+s - 36)=s by omega,if_pos ⟨by omega,by omega,d1,d2⟩]
  · rw [hF.cur d a d0 a0 a1,if_neg (fun q=>by omega)]
section
variable {U V:Tb} {b:Nat} {idx:List Nat} {B:Ben} {n:Nat} {K:Int}
theorem Run.up (h:Run U V b idx B n K) {d:Int} (d0:0≤d):B.up (List.replicate n true) d=(decide (d < n) && !B.failed d):=zCw h.num d0
theorem Run.is (h:Run U V b idx B n K) {d:Int} (d0:0≤d) (d1:d < n):B.is d=true:=zfJ.2 ⟨d0,by rw [h.num]; exact d1⟩
theorem Run.write (h:Run U V b idx B n K) (hK:K≤900000) (tg:Tag) (live:List Bool) {g:Geo} {r:Int} (hr:zcB g r=true) (tg2:Tag) {data:List (List Int)} (hR:Row g data):∃ B1,
    zbL [.h kB b 0,.sl tg (live.map D.bool),.agg [.int .i64 g.l,.int .i64 g.d,.int .i64 g.c],.int .i64 r,.sl tg2 (pL (fP data))] [P0 U b idx B,P1 V idx B]=some (Ans.mk (.int .i64 0) [] [P0 U b idx B1,P1 V idx B1])∧
    Run U V b idx B1 n (K+8)∧(∀ e,B1.failed e=B.failed e)∧B1=does B (B.wActs live g r data)∧(∀ e a:Int,0≤e→e < g.d→0≤a→a < 52→B1.cur e a=if a=36+r∧B.up live e=true then atR g r data e else B.cur e a):=by
  obtain ⟨hw1,hD1⟩:=zwC h.at'.ok h.down (live:=live) hr hR (.inl (by rw [h.left]; omega))
  have hdd:=ok_d (zbW.1 hr).1
  have hw:=h.w
  have hwd:=zd1 (zbW.1 hr).1
  have hsw:=zoX h.at' (by omega) tg live g r tg2 (ps:=fP data) (by have:=hR.len; simp; omega) (by intro x hx; obtain ⟨y,hy,rfl⟩:=List.mem_map.1 hx; exact hR.sec y hy)
  rw [zoW,hw1] at hsw
  have hn:=zxC B live g r data
  have hnx:=hD1.nx.w
  refine ⟨does B (B.wActs live g r data),hsw,⟨h.at'.nx hD1.nx,hD1.nx.n.trans h.num,hD1.down.trans h.down,by rw [hD1.left,h.left]; rfl,by omega⟩,hD1.failed,rfl,fun e a e0 e1 a0 a1=>zAA hD1 e0 e1 a0 a1⟩
theorem Run.flush (h:Run U V b idx B n K) (hK:K≤900000) (tg:Tag) (live:List Bool):∃ B1,
    zbM [.h kB b 0,.sl tg (live.map D.bool)] [P0 U b idx B,P1 V idx B]=some (Ans.mk (.int .i64 0) [] [P1 V idx B1])∧P0 U b idx B=P0 U b idx B1∧
    Run U V b idx B1 n K∧(∀ e,B1.failed e=B.failed e)∧B1=does B (B.fActs live)∧(∀ e a:Int,0≤e→0≤a→a < 52→B1.cur e a=B.cur e a):=by
  obtain ⟨hw1,hD1⟩:=zwD h.at'.ok h.down live (.inl (by rw [h.left]; omega))
  have hw:=h.w
  have hsf:=zvv h.at' (by omega) tg live
  rw [hw1] at hsf
  have hnx:=hD1.nx.w
  rw [ztU] at hnx
  refine ⟨does B (B.fActs live),hsf,(zAC _ _ (zDU B live)).symm,⟨h.at'.nx hD1.nx,hD1.nx.n.trans h.num,hD1.down.trans h.down,by rw [hD1.left,h.left,ztU]; rfl,by omega⟩,hD1.failed,rfl,fun e a e0 a0 a1=>zAz hD1 e0 a0 a1⟩
theorem Run.fail (h:Run U V b idx B n K) {d:Int} (d0:0≤d) (d1:d < n):∃ B1,
    zbc [.h kB b 0,.int .i64 d] [P0 U b idx B,P1 V idx B]=some (Ans.mk (.int .i64 0) [] [P1 V idx B1])∧P0 U b idx B=P0 U b idx B1∧
    Run U V b idx B1 n K∧(∀ e:Int,0≤e→e < n→B1.failed e=(decide (e=d) || B.failed e))∧B1=(B.fail d).2∧(∀ e a:Int,0≤e→e≠d→B1.cur e a=B.cur e a):=by
  have hd:=h.is d0 d1
  obtain ⟨f1,f2,f3,f4,f5⟩:=zAy hd
  have hf:=zET h.at' d
  rw [f1] at hf
  have hp:P0 U b idx B=P0 U b idx (B.fail d).2:=by unfold Ben.fail; rw [if_pos hd]; rfl
  have hnx:=zDu (d:=d) h.at'.ok
  refine ⟨(B.fail d).2,hf,hp,⟨h.at'.nx hnx,f2.trans h.num,f3.trans h.down,f4.trans h.left,by rw [f5]; exact h.w⟩,fun e e0 e1=>zwB hd (h.is e0 e1),rfl,fun e a e0 hne=>zB3 hd e0 hne⟩
theorem Run.read (h:Run U V b idx B n K) (hK:K≤900000) (tg:Tag) (live:List Bool) (g:Geo) (r:Int):
    zbO [.h kB b 0,.sl tg (live.map D.bool),.agg [.int .i64 g.l,.int .i64 g.d,.int .i64 g.c],.int .i64 r] [P0 U b idx B,P1 V idx B]=some (Ans.mk (.tup [.sl .own (pL (fP (B.sRead live g r).1)),.int .i64 (B.sRead live g r).2]) [] []):=
  zq4 h.at' (by have:=h.w; omega) tg live g r
end
end Wf

namespace Wf
open Go Go.RowKit Go.Proofs
set_option linter.unusedSimpArgs false
set_option linter.unusedVariables false
set_option maxHeartbeats 4000000
@[simp ↓] theorem zAD {R α:Type} (g:α→Option R) (f:(α→Option R)→Option R):jn g f=f g:=rfl
theorem zAE {R α:Type} {g:α→Option R} {f:(α→Option R)→Option R} {r:Option R} (I:α→Prop) (hg:∀ a,I a→g a=r) (hf:∀ j,(∀ a,I a→j a=r)→f j=r):jn g f=r:=hf g hg
def zlB (B:Ben) (live:List Bool) (k:Nat):List (Int×D):=((List.range k).filter fun (d:Nat)=> !B.up live d).map fun (d:Nat)=>((d:Int),D.bool true)
theorem zsw (B:Ben) (live:List Bool) (k:Nat) (d:Nat):zeK d (zlB B live k)=if d < k∧B.up live d=false then some (.bool true) else none:=by
  induction k with
  | zero=>rw [if_neg (by omega)]; rfl
  | succ k ih=>
    unfold zlB
    rw [List.range_succ,List.filter_append,List.map_append]
    by_cases hu:B.up live (k:Int)=true
    · have:List.filter (fun (d:Nat)=> !B.up live d) [k]=[]:=by rw [List.filter_cons_of_neg (by simp [hu])]; rfl
      rw [this,List.map_nil,List.append_nil]
      show zeK d (zlB B live k)=_
      rw [ih]
      by_cases hd:d=k
      · subst hd; rw [if_neg (by omega),if_neg (by simp [hu])]
      · by_cases hc:d < k∧B.up live d=false
        · rw [if_pos hc,if_pos ⟨by omega,hc.2⟩]
        · rw [if_neg hc,if_neg (fun q=>hc ⟨by omega,q.2⟩)]
    · have hu':B.up live (k:Int)=false:=by simpa using hu
      have:List.filter (fun (d:Nat)=> !B.up live d) [k]=[k]:=by rw [List.filter_cons_of_pos (by simp [hu'])]; rfl
      rw [this]
      show zeK d (zlB B live k++[((k:Int),D.bool true)])=_
      rw [zu5,ih]
      by_cases hd:d=k
      · subst hd
        rw [if_neg (show ¬ (d < d∧B.up live d=false) by omega)]
        simp [hu']
      · by_cases hc:d < k∧B.up live d=false
        · rw [if_pos hc,if_pos (show d < k+1∧B.up live d=false from ⟨by omega,hc.2⟩)]; rfl
        · rw [if_neg hc,if_neg (show ¬ (d < k+1∧B.up live d=false) from fun q=>hc ⟨by omega,q.2⟩)]
          simp; omega
theorem zyz (B:Ben) (live:List Bool) (k:Nat):zlB B live (k+1)=if B.up live k=true then zlB B live k else setD (k:Int) (.bool true) (zlB B live k):=by
  have hf:=zsw B live k k
  rw [if_neg (by omega)] at hf
  by_cases hu:B.up live (k:Int)=true
  · rw [if_pos hu]
    unfold zlB
    rw [List.range_succ,List.filter_append,List.map_append,List.filter_cons_of_neg (by simp [hu])]
    simp
  · rw [if_neg hu,zBu hf]
    have hu':B.up live (k:Int)=false:=by simpa using hu
    unfold zlB
    rw [List.range_succ,List.filter_append,List.map_append,List.filter_cons_of_pos (by simp [hu'])]
    simp
theorem zAF (B:Ben) (live:List Bool) (g:Geo):(zlB B live g.d.toNat).length=B.lostN live g:=by
  unfold zlB Ben.lostN
  rw [List.length_map,←List.countP_eq_length_filter]
theorem zyA (B:Ben) (live:List Bool) (k:Nat):D.freeE (zlB B live k)=true:=by
  unfold zlB
  generalize (List.range k).filter _=l
  induction l with
  | nil=>rfl
  | cons d l ih=>exact (Bool.and_eq_true _ _).mpr ⟨by simp [D.freeP,D.free],ih⟩
section
variable {T0 T1:Tb} {b:Nat} {idx:List Nat} {B:Ben}
theorem zDV (h:At T0 T1 b idx B) (tg:Tag) (live:List Bool) {g:Geo} (hk:g.ok=true):
    zbn [.h kB b 0,.sl tg (live.map D.bool),.agg [.int .i64 g.l,.int .i64 g.d,.int .i64 g.c]] [P0 T0 b idx B,P1 T1 idx B]=some (Ans.mk (.mp .own (.int .i64) (zlB B live g.d.toNat)) [] []):=by
  rw [zkh,zk3]
  unfold ze1
  have hdd:=ok_d hk
  let st:Nat→(Nat×List D×(Int×Int×Int×PUnit)×List (Int×D)×Int×PUnit)×List (List D)×List (List D)×PUnit:=fun k=>((b,live.map D.bool,(g.l,g.d,g.c,PUnit.unit),zlB B live k,(k:Int),PUnit.unit),P0 T0 b idx B,P1 T1 idx B,PUnit.unit)
  show zce _ (st 0)=_
  refine zcy st g.d.toNat (by omega) ?_ ?_
  · intro again k hk'
    dsimp only [st]
    have hd:(k:Int) < g.d:=by omega
    have hs:=zyz B live k
    have hfa:=ztN h (k:Int)
    have hbl:=zyo h
    rw [hs]
    have hup:B.up live (k:Int)=(decide ((k:Int) < B.n) && ((live[k]?).getD false && !B.failed k)):=rfl
    by_cases h1:k < live.length
    · have e:live[k]? =some (live[k]):=List.getElem?_eq_getElem h1
      have e':(live.map D.bool)[k]? =some (.bool (live[k])):=by simp [e]
      have h1':¬ (live.length:Int)≤(k:Int):=by omega
      cases hv:live[k]
      · rw [hv] at e e'
        rw [if_neg (by rw [hup,e]; simp)]
        simp (disch:=first | omega | assumption | (simp; done) | fail) [hd,h1,h1',zai e',zaq]
      · rw [hv] at e e'
        cases hf:B.failed (k:Int)
        · rw [hf] at hfa
          by_cases hn:(k:Int) < B.n
          · rw [if_pos (by rw [hup,e,hf]; simp [hn])]
            have hn':¬ B.n≤(k:Int):=by omega
            simp (disch:=first | omega | assumption | (simp; done) | fail) [hd,h1,h1',zai e',hfa,hbl,hn',zaq]
          · rw [if_neg (by rw [hup]; simp [hn])]
            have hn':B.n≤(k:Int):=by omega
            simp (disch:=first | omega | assumption | (simp; done) | fail) [hd,h1,h1',zai e',hfa,hbl,hn',zaq]
        · rw [hf] at hfa
          rw [if_neg (by rw [hup,hf]; simp)]
          simp (disch:=first | omega | assumption | (simp; done) | fail) [hd,h1,h1',zai e',hfa,zaq]
    · have e:live[k]? =none:=List.getElem?_eq_none (by omega)
      have h1':(live.length:Int)≤(k:Int):=by omega
      rw [if_neg (by rw [hup,e]; simp)]
      simp (disch:=first | omega | assumption | (simp; done) | fail) [hd,h1,h1',zaq]
  · intro again
    dsimp only [st]
    have hd:¬ ((g.d.toNat:Nat):Int) < g.d:=by omega
    simp (disch:=first | omega | assumption | (simp; done) | fail) [hd,zyA]
end
def zAG (n:Int) (k:Nat):List Bool:=
  let a:=List.replicate k true
  let c:=if n % 3 > 0 then a.set (qn n 3 % k).toNat false else a
  if n % 9=8 then c.set (qn n 27 % k).toNat false else c
theorem zAH (n:Int) (k:Nat):(zAG n k).length=k:=by unfold zAG; dsimp only; split<;>split<;>simp
theorem zAI (n:Int) {k:Nat} (h1:1≤k) (h8:k≤8):zbw [.int .i64 n,.int .i64 k]=some (.sl .own ((zAG n k).map D.bool)):=by
  rw [zlp]
  unfold zfr
  have w3:=zkC n 3 (by omega) (by omega)
  have w9:=zkC n 9 (by omega) (by omega)
  have wk:=fun m=>zkC m (k:Int) (by omega) (by omega)
  let st:Nat→(Int×Int×List D×Int×Int×PUnit)×PUnit:=fun j=>((n,(k:Int),(List.range k).map (fun i=>D.bool (decide (i < j))),(k:Int),(j:Int),PUnit.unit),PUnit.unit)
  have hst:st 0=((n,(k:Int),List.replicate k (D.bool false),(k:Int),0,PUnit.unit),PUnit.unit):=by
    have:(List.range k).map (fun i=>D.bool (decide (i < 0)))=List.replicate k (D.bool false):=by
      apply List.ext_getElem?; intro j
      by_cases hj:j < k
      · simp [hj]
      · rw [List.getElem?_eq_none (by simp; omega),List.getElem?_eq_none (by simp; omega)]
    simp only [st,this]; rfl
  rw [zab (by omega),zab (by rfl),zab (by omega),zab (by omega),zab (by simp),zab (by simp),Int.toNat_natCast,←hst]
  refine zcy st k (by omega) ?_ ?_
  · intro again j hj
    dsimp only [st]
    have hg:((List.range k).map (fun i=>D.bool (decide (i < j))))[j]? =some (.bool false):=by simp [hj]
    have hs:=zyx hj
    simp (disch:=first | omega | assumption | (simp; done) | fail) [hj,zai hg,D.isAgg,zaq,hs]
  · intro again
    dsimp only [st]
    have hall:(List.range k).map (fun i=>D.bool (decide (i < k)))=(List.replicate k true).map D.bool:=by
      apply List.ext_getElem?; intro j
      by_cases hj:j < k
      · simp [hj]
      · rw [List.getElem?_eq_none (by simp; omega),List.getElem?_eq_none (by simp; omega)]
    have e3:IntKind.i64.wrap (n.tdiv 3)=qn n 3:=rfl
    have e27:IntKind.i64.wrap (n.tdiv 27)=qn n 27:=rfl
    have a0:=Int.emod_nonneg (qn n 3) (show (k:Int)≠0 by omega)
    have a1:=Int.emod_lt_of_pos (qn n 3) (show 0 < (k:Int) by omega)
    have b0:=Int.emod_nonneg (qn n 27) (show (k:Int)≠0 by omega)
    have b1:=Int.emod_lt_of_pos (qn n 27) (show 0 < (k:Int) by omega)
    have a2:(qn n 3 % (k:Int)).toNat < k:=by omega
    have b2:(qn n 27 % (k:Int)).toNat < k:=by omega
    have hk0:0 < (k:Int):=by omega
    have hset:∀ (l:List Bool) (i:Nat),(l.map D.bool).set i (.bool false)=(l.set i false).map D.bool:=by intro l i; rw [List.map_set]
    have hget:∀ (l:List Bool) (i:Nat),i < l.length→∃ x,(l.map D.bool)[i]? =some (.bool x):=by
      intro l i hi; exact ⟨l[i],by simp [hi]⟩
    rw [hall]
    unfold zAG
    dsimp only
    generalize hl0:List.replicate k true=l0
    have hl0l:l0.length=k:=by rw [←hl0]; simp
    obtain ⟨x1,g1⟩:=hget l0 (qn n 3 % (k:Int)).toNat (by omega)
    obtain ⟨x2,g2⟩:=hget l0 (qn n 27 % (k:Int)).toNat (by omega)
    obtain ⟨x3,g3⟩:=hget (l0.set (qn n 3 % (k:Int)).toNat false) (qn n 27 % (k:Int)).toNat (by simp; omega)
    have hfree:=fun l=>zyw l
    by_cases h3:n % 3 > 0
    · by_cases h9:n % 9=8
      · rw [if_pos h3,if_pos h9]
        simp (disch:=first | omega | assumption | (simp; done) | fail) [-List.all_eq_true,-List.map_set,hk0,w3,show 0 < n % 3 from h3,e3,wk,a0,a2,hl0l,zai g1,D.isAgg,w9,h9,e27,b0,b2,hset,zai g3,hfree]
      · rw [if_pos h3,if_neg h9]
        simp (disch:=first | omega | assumption | (simp; done) | fail) [-List.all_eq_true,-List.map_set,hk0,w3,show 0 < n % 3 from h3,e3,wk,a0,a2,hl0l,zai g1,D.isAgg,w9,h9,hset,hfree]
    · have h3':¬ 0 < n % 3:=h3
      by_cases h9:n % 9=8
      · rw [if_neg h3,if_pos h9]
        simp (disch:=first | omega | assumption | (simp; done) | fail) [-List.all_eq_true,-List.map_set,hk0,w3,h3',wk,hl0l,D.isAgg,w9,h9,e27,b0,b2,hset,zai g2,hfree]
      · rw [if_neg h3,if_neg h9]
        simp (disch:=first | omega | assumption | (simp; done) | fail) [-List.all_eq_true,-List.map_set,hk0,w3,h3',wk,hl0l,D.isAgg,w9,h9,hset,hfree]
end Wf

namespace Wf
open Go Go.RowKit Go.Proofs
set_option linter.unusedSimpArgs false
set_option linter.unusedVariables false
set_option maxHeartbeats 4000000
def Ben.nP (B:Ben) (d:Int):Nat:=(B.dk d).pend.length
section
variable {B:Ben}
theorem zxE (B:Ben) (a:Act):does B [a]=B.does1 a:=rfl
theorem zxF {a:Act} (h:a.Ok B) {e:Int} (e0:0≤e):(B.does1 a).nP e=match a with
    | .w d _ _=>if e=d then B.nP e+1 else B.nP e
    | .f d=>if e=d then 0 else B.nP e:=by
  cases a with
  | w d a x=>
    show (((B.junk ((B.dk d).write a x).2).less.setD d ((B.dk d).add a x)).dk e).pend.length=if e=d then B.nP e+1 else B.nP e
    rw [zgI (by simpa using h.1) e0]
    by_cases he:e=d
    · subst he; rw [if_pos rfl,if_pos rfl]; simp [DS.add,Ben.nP]
    · rw [if_neg he,if_neg he]; rfl
  | f d=>
    show ((B.setD d (B.dk d).flushed).dk e).pend.length=if e=d then 0 else B.nP e
    rw [zgI h.1 e0]
    by_cases he:e=d
    · subst he; rw [if_pos rfl,if_pos rfl]; rfl
    · rw [if_neg he,if_neg he]; rfl
theorem zAJ {as':List Act} (hB:B.Ok):(∀ a∈as',a.Ok B)→(does B as').Ok∧∀ c:Act,c.Ok B→c.Ok (does B as'):=by
  induction as' generalizing B with
  | nil=>intro _; exact ⟨hB,fun c hc=>hc⟩
  | cons a l ih=>
    intro h
    have ha:=h a (List.mem_cons_self ..)
    obtain ⟨i1,i2⟩:=ih (zm6 hB ha).ok fun c hc=>ztl hB ha (h c (List.mem_cons_of_mem _ hc))
    exact ⟨i1,fun c hc=>i2 c (ztl hB ha hc)⟩
theorem zB8 (hB:B.Ok) {live:List Bool} {g:Geo} {r:Int} {data:List (List Int)} (hr:zcB g r=true) (hR:Row g data) {e:Int} (e0:0≤e):
    (does B (B.wActs live g r data)).nP e=B.nP e+if e < g.d∧B.up live e=true then 1 else 0:=by
  have hdd:=ok_d (zbW.1 hr).1
  have hok:=zxr (B:=B) (live:=live) hr hR
  have key:∀ k,k≤g.d.toNat→(does B ((List.range k).flatMap fun (d:Nat)=>if B.up live d then [Act.w d (36+r) (atR g r data d)] else [])).nP e=B.nP e+if e < k∧B.up live e=true then 1 else 0:=by
    intro k
    induction k with
    | zero=>intro _; rw [if_neg (by omega)]; rfl
    | succ k ih=>
      intro hk
      rw [List.range_succ,List.flatMap_append,zqt]
      have hsub:∀ a∈((List.range k).flatMap fun (d:Nat)=>if B.up live d then [Act.w d (36+r) (atR g r data d)] else []),a.Ok B:=by
        intro a ha
        refine hok a ?_
        unfold Ben.wActs
        obtain ⟨d,hd,ha⟩:=List.mem_flatMap.1 ha
        exact List.mem_flatMap.2 ⟨d,List.mem_range.2 (by have:=List.mem_range.1 hd; omega),ha⟩
      obtain ⟨i1,i2⟩:=zAJ hB hsub
      have ih:=ih (by omega)
      generalize does B ((List.range k).flatMap fun (d:Nat)=>if B.up live d then [Act.w d (36+r) (atR g r data d)] else [])=C at*
      simp only [List.flatMap_cons,List.flatMap_nil,List.append_nil]
      by_cases hu:B.up live (k:Int)=true
      · rw [if_pos hu]
        have ha:(Act.w k (36+r) (atR g r data k)).Ok C:=i2 _ (hok _ (by unfold Ben.wActs; exact List.mem_flatMap.2 ⟨k,List.mem_range.2 (by omega),by rw [if_pos hu]; simp⟩))
        rw [zxE]
        rw [zxF ha e0]
        dsimp only
        rw [ih]
        by_cases he:e=k
        · subst he; rw [if_pos rfl,if_neg (show ¬ ((k:Int) < (k:Int)∧_) by omega),if_pos ⟨by omega,hu⟩]
        · rw [if_neg he]
          by_cases hc:e < k∧B.up live e=true
          · rw [if_pos hc,if_pos ⟨by omega,hc.2⟩]
          · rw [if_neg hc,if_neg (fun q=>hc ⟨by omega,q.2⟩)]
      · rw [if_neg hu]
        show C.nP e=_
        rw [ih]
        by_cases he:e=k
        · subst he; rw [if_neg (show ¬ ((k:Int) < (k:Int)∧_) by omega),if_neg (fun q=>hu q.2)]
        · by_cases hc:e < k∧B.up live e=true
          · rw [if_pos hc,if_pos ⟨by omega,hc.2⟩]
          · rw [if_neg hc,if_neg (fun q=>hc ⟨by omega,q.2⟩)]
  have:=key g.d.toNat (Nat.le_refl _)
  rw [show ((g.d.toNat:Nat):Int)=g.d by omega] at this
  exact this
theorem zB9 (hB:B.Ok) {live:List Bool} {e:Int} (e0:0≤e):(does B (B.fActs live)).nP e=if B.up live e=true then 0 else B.nP e:=by
  have hok:=zxs (B:=B) (live:=live)
  have key:∀ k,k≤B.ds.length→(does B ((List.range k).flatMap fun (d:Nat)=>if B.up live d then [Act.f d] else [])).nP e=if e < k∧B.up live e=true then 0 else B.nP e:=by
    intro k
    induction k with
    | zero=>intro _; rw [if_neg (by omega)]; rfl
    | succ k ih=>
      intro hk
      rw [List.range_succ,List.flatMap_append,zqt]
      have hsub:∀ a∈((List.range k).flatMap fun (d:Nat)=>if B.up live d then [Act.f d] else []),a.Ok B:=by
        intro a ha
        refine hok a ?_
        unfold Ben.fActs
        obtain ⟨d,hd,ha⟩:=List.mem_flatMap.1 ha
        exact List.mem_flatMap.2 ⟨d,List.mem_range.2 (by have:=List.mem_range.1 hd; omega),ha⟩
      obtain ⟨i1,i2⟩:=zAJ hB hsub
      have ih:=ih (by omega)
      generalize does B ((List.range k).flatMap fun (d:Nat)=>if B.up live d then [Act.f d] else [])=C at*
      simp only [List.flatMap_cons,List.flatMap_nil,List.append_nil]
      by_cases hu:B.up live (k:Int)=true
      · rw [if_pos hu]
        have ha:(Act.f k).Ok C:=i2 _ (hok _ (by unfold Ben.fActs; exact List.mem_flatMap.2 ⟨k,List.mem_range.2 (by omega),by rw [if_pos hu]; simp⟩))
        rw [zxE]
        rw [zxF ha e0]
        dsimp only
        rw [ih]
        by_cases he:e=k
        · subst he; rw [if_pos rfl,if_pos ⟨by omega,hu⟩]
        · rw [if_neg he]
          by_cases hc:e < k∧B.up live e=true
          · rw [if_pos hc,if_pos ⟨by omega,hc.2⟩]
          · rw [if_neg hc,if_neg (fun q=>hc ⟨by omega,q.2⟩)]
      · rw [if_neg hu]
        show C.nP e=_
        rw [ih]
        by_cases he:e=k
        · subst he; rw [if_neg (show ¬ ((k:Int) < (k:Int)∧_) by omega),if_neg (fun q=>hu q.2)]
        · by_cases hc:e < k∧B.up live e=true
          · rw [if_pos hc,if_pos ⟨by omega,hc.2⟩]
          · rw [if_neg hc,if_neg (fun q=>hc ⟨by omega,q.2⟩)]
  have:=key B.ds.length (Nat.le_refl _)
  unfold Ben.fActs
  rw [this]
  by_cases hu:B.up live e=true
  · rw [if_pos hu,if_pos ⟨zEZ hu,hu⟩]
  · rw [if_neg hu,if_neg (fun q=>hu q.2)]
theorem ztV (B:Ben) (f:Nat→Bool):∀ k,(∀ j:Nat,j < k→B.nP j=if f j then 1 else 0)→ztO B k=((List.range k).countP f:Nat)
  | 0,_=>rfl
  | k+1,h=>by
    have ih:=ztV B f k fun j hj=>h j (by omega)
    have hk:=h k (by omega)
    unfold Ben.nP at hk
    rw [List.range_succ,List.countP_append,List.countP_singleton]
    show ztO B k+_=_
    rw [ih,hk]
    split<;>simp
theorem zoY (h:∀ j:Nat,j < B.ds.length→B.nP j=0):B.pending=0:=by
  unfold Ben.pending
  rw [ztV B (fun _=>false) _ (by simpa using h)]
  simp
end
end Wf

namespace Wf
open Go Go.RowKit Go.Proofs
set_option linter.unusedSimpArgs false
set_option linter.unusedVariables false
set_option maxHeartbeats 4000000
end Wf

namespace Wf
open Go Go.RowKit Go.Proofs
set_option linter.unusedVariables false
set_option maxRecDepth 100000
def zdx:Ann:={ loops:=[(1,[.dead,.val (.cell .lent),.val (.cell .lent),.dead,.dead,.val (.cell (.int .i64)),.val (.cell (.int .i64)),.dead,.dead,.dead,.dead,.dead,.dead,.dead,.dead,.box true [(.int .i64),(.int .i64),(.int .i64)],.ptr 3840,.own 1]),(2,[.dead,.val (.cell .lent),.val (.cell .lent),.dead,.dead,.val (.cell (.int .i64)),.dead,.dead,.dead,.dead,.dead,.dead,.dead,.dead,.dead,.box true [(.int .i64),(.int .i64),(.int .i64)],.ptr 3840,.own 1,.val (.cell (.int .i64))]),(5,[.dead,.val (.cell .lent),.dead,.dead,.dead,.val (.cell (.int .i64)),.dead,.dead,.dead,.dead,.dead,.dead,.dead,.dead,.dead,.box true [(.int .i64),(.int .i64),(.int .i64)],.ptr 3840,.own 1,.dead,.dead,.own 1,.dead,.dead,.val (.cell (.mapo (.int .i64))),.val (.cell (.int .i64))]),(8,[.dead,.val (.cell .lent),.dead,.dead,.dead,.val (.cell (.int .i64)),.dead,.dead,.dead,.dead,.dead,.dead,.dead,.dead,.dead,.box true [(.int .i64),(.int .i64),(.int .i64)],.ptr 3840,.own 1,.dead,.dead,.own 1,.dead,.dead,.val (.cell (.mapo (.int .i64))),.val (.cell (.int .i64)),.val (.cell .sl)])],ks:=[(3840,true),(7649,true)] }
noncomputable def zcR:List D→Option D:=denT Try.prog (zaA [(ID.wattleplay_Good,(.pure [0] zbu)),(ID.wattlelaw14_Filled,(.st [] [0] [(3840,true),(7649,true)] zaZ)),(ID.wattleplay_Live,(.pure [1] zbw)),(ID.wattlekeep_Within,(.pure [0] zaa)),(ID.bench_Bench_Fail,(.st [] [0] [(3840,false),(7649,true)] zbc)),(ID.wattleref01_Width,(.pure [0] zac)),(ID.wattleplay_Sectors,(.pure [1] zak)),(ID.wattleref01_Fill,(.pure [1,0] zaI)),(ID.stripe_Write,(.st [] [0] [(3840,true),(7649,true)] zbL)),(ID.bench_Bench_Pending,(.st [] [0] [(3840,false),(7649,false)] zaR)),(ID.wattlelaw14_wakes,(.pure [0] za6)),(ID.wattlelaw14_lost,(.st [] [0] [(3840,false),(7649,false)] zbn)),(ID.bench_Bench_Failed,(.st [] [0] [(3840,false),(7649,false)] zal)),(ID.wattlelaw14_Data,(.pure [1] zbo)),(ID.bench_Bench_Read,(.st [] [1,0] [(3840,false),(7649,false)] zaL)),(ID.wattlekeep_Same_byte,(.pure [0] zax)),(ID.stripe_Flush,(.st [] [0] [(3840,false),(7649,true)] zbM))]) zdx [0] ID.wattlelaw14_StripeWrites
theorem sound_wattlelaw14_StripeWrites:za2 Try.prog ID.wattlelaw14_StripeWrites (.pure [0] zcR):=zr6 (zaC [zlc,ziL,zlo,zcK,zkb,zci,zdg,zfP,zon,zih,zju,zkg,zdj,zku,zfQ,zek,zoq]) zbA ⟨Try.f6,by kernel_rfl,by kernel_rfl,by kernel_rfl⟩
noncomputable def zcS (zbu:List D→Option D) (zaZ:List D→List Tb→Option Ans) (zbw:List D→Option D) (zaa:List D→Option D) (zbc:List D→List Tb→Option Ans) (zac:List D→Option D) (zak:List D→Option D) (zaI:List D→Option D) (zbL:List D→List Tb→Option Ans) (zaR:List D→List Tb→Option Ans) (za6:List D→Option D) (zbn:List D→List Tb→Option Ans) (zal:List D→List Tb→Option Ans) (zbo:List D→Option D) (zaL:List D→List Tb→Option Ans) (zax:List D→Option D) (zbM:List D→List Tb→Option Ans) (a0:Int) (a1:List D) (a2:List D) (a3:Int) (a4:Int) (a5:Int) (a6:Int):Option D:=
  zat (zbu [D.int IntKind.i64 a0]) fun r1=>
  asAgg r1 fun cs2=>
  zaB ([Lf.int IntKind.i64,Lf.int IntKind.i64,Lf.int IntKind.i64]) cs2 fun c3=>
  zat (zaZ [D.agg [D.int IntKind.i64 c3.fst,D.int IntKind.i64 c3.snd.fst,D.int IntKind.i64 c3.snd.snd.fst],D.int IntKind.i64 c3.snd.fst,D.sl Tag.lent a1] [[],[]]) fun r4=>
  nilK r4.outs <|
  zer r4.tbs fun c5 q6=>
  zer q6 fun c7 q8=>
  nilK q8 <|
  sif (zi2 r4.r=true) <|
  znL r4.r fun b9=>
  brK b9
    (some (D.bool false))
    (zat (zbw [D.int IntKind.i64 a3,D.int IntKind.i64 c3.snd.fst]) fun r10=>
    za4 r10 fun l11=>
    zat (zaa [D.int IntKind.i64 a4,D.int IntKind.i64 (3:Int)]) fun r12=>
    asI IntKind.i64 r12 fun i13=>
    jn (α:=(List D×List D×Int×Int×(Int×Int×Int×PUnit)×D×List D×PUnit)×List (List D)×List (List D)×PUnit) (fun a14=>
        zat (zaa [D.int IntKind.i64 a14.fst.snd.snd.fst,D.int IntKind.i64 (18:Int)]) fun r15=>
        asI IntKind.i64 r15 fun i16=>
        letN (IntKind.wrap IntKind.i64 (i16 - (1:Int))) fun n17=>
        zat (zac [D.agg [D.int IntKind.i64 a14.fst.snd.snd.snd.snd.fst.fst,D.int IntKind.i64 a14.fst.snd.snd.snd.snd.fst.snd.fst,D.int IntKind.i64 a14.fst.snd.snd.snd.snd.fst.snd.snd.fst]]) fun r18=>
        asI IntKind.i64 r18 fun i19=>
        letN (Int.tmod a14.fst.snd.snd.snd.fst (7:Int)) fun n20=>
        jn (α:=(List D×List D×Int×(Int×Int×Int×PUnit)×D×List D×Int×PUnit)×List (List D)×List (List D)×PUnit) (fun a21=>
            zat (zak [D.sl Tag.lent a21.fst.snd.fst,D.int IntKind.i64 a21.fst.snd.snd.snd.snd.snd.snd.fst]) fun r22=>
            za4 r22 fun l23=>
            sif ((0:Nat)+List.length l23≤List.length l23) <|
            zat (zaI [D.agg [D.int IntKind.i64 a21.fst.snd.snd.snd.fst.fst,D.int IntKind.i64 a21.fst.snd.snd.snd.fst.snd.fst,D.int IntKind.i64 a21.fst.snd.snd.snd.fst.snd.snd.fst],D.int IntKind.i64 a21.fst.snd.snd.fst,D.sl Tag.lent (cut (0:Nat) (List.length l23) l23)]) fun r24=>
            zeq r24 fun ts25=>
            zaB ([Lf.any,Lf.any]) ts25 fun c26=>
            za4 c26.fst fun l27=>
            asB c26.snd.fst fun b28=>
            sif ((0:Nat)+List.length a21.fst.snd.snd.snd.snd.snd.fst≤List.length a21.fst.snd.snd.snd.snd.snd.fst) <|
            sif ((0:Nat)+List.length l23≤List.length l23) <|
            zat (zbL [a21.fst.snd.snd.snd.snd.fst,D.sl Tag.lent (cut (0:Nat) (List.length a21.fst.snd.snd.snd.snd.snd.fst) a21.fst.snd.snd.snd.snd.snd.fst),D.agg [D.int IntKind.i64 a21.fst.snd.snd.snd.fst.fst,D.int IntKind.i64 a21.fst.snd.snd.snd.fst.snd.fst,D.int IntKind.i64 a21.fst.snd.snd.snd.fst.snd.snd.fst],D.int IntKind.i64 a21.fst.snd.snd.fst,D.sl Tag.lent (cut (0:Nat) (List.length l23) l23)] [a21.snd.fst,a21.snd.snd.fst]) fun r29=>
            nilK r29.outs <|
            zer r29.tbs fun c30 q31=>
            zer q31 fun c32 q33=>
            nilK q33 <|
            asI IntKind.i64 r29.r fun i34=>
            brK (!b28)
              (brK (i34 == (1:Int))
                (zat (zaR [a21.fst.snd.snd.snd.snd.fst] [c30,c32]) fun r35=>
                nilK r35.outs <|
                nilK r35.tbs <|
                asI IntKind.i64 r35.r fun i36=>
                brK (i36 == (0:Int))
                  (zat (za6 []) fun r37=>
                  asB r37 fun b38=>
                  some (D.bool b38))
                  (some (D.bool false)))
                (some (D.bool false)))
              (sif ((0:Nat)+List.length a21.fst.snd.snd.snd.snd.snd.fst≤List.length a21.fst.snd.snd.snd.snd.snd.fst) <|
              zat (zbn [a21.fst.snd.snd.snd.snd.fst,D.sl Tag.lent (cut (0:Nat) (List.length a21.fst.snd.snd.snd.snd.snd.fst) a21.fst.snd.snd.snd.snd.snd.fst),D.agg [D.int IntKind.i64 a21.fst.snd.snd.snd.fst.fst,D.int IntKind.i64 a21.fst.snd.snd.snd.fst.snd.fst,D.int IntKind.i64 a21.fst.snd.snd.snd.fst.snd.snd.fst]] [c30,c32]) fun r39=>
              nilK r39.outs <|
              nilK r39.tbs <|
              zhh (MK.int IntKind.i64) r39.r fun m40=>
              brK (i34 != (0:Int))
                (some (D.bool false))
                (zat (zaR [a21.fst.snd.snd.snd.snd.fst] [c30,c32]) fun r41=>
                nilK r41.outs <|
                nilK r41.tbs <|
                asI IntKind.i64 r41.r fun i42=>
                letN (IntKind.wrap IntKind.i64 (a21.fst.snd.snd.snd.fst.snd.fst - (↑(List.length m40):Int))) fun n43=>
                brK (i42 != n43)
                  (some (D.bool false))
                  (sif (List.length a21.fst.snd.snd.snd.snd.snd.fst=List.length a21.fst.snd.snd.snd.snd.snd.fst) <|
                  sif (List.length l27=List.length l27) <|
                  zce (α:=(List D×Int×(Int×Int×Int×PUnit)×D×List D×List D×List (Int×D)×Int×PUnit)×List (List D)×List (List D)×PUnit) (fun again44 ((l45,(i46,((i47,(i48,(i49,_))),(x50,(l51,(l52,(l53,(i54,_)))))))),(U55,(U56,_)))=>
                    brK (decide (i54 < i48))
                      (zat (zal [x50,D.int IntKind.i64 i54] [U55,U56]) fun r57=>
                      nilK r57.outs <|
                      nilK r57.tbs <|
                      asB r57.r fun b58=>
                      brK b58
                        (letN (IntKind.wrap IntKind.i64 (i54+(1:Int))) fun n59=>
                        sif (List.length l51=List.length l51) <|
                        sif (List.length l52=List.length l52) <|
                        again44 (((l45,i46,(i47,i48,i49,PUnit.unit),x50,l51,l52,l53,n59,PUnit.unit),U55,U56,PUnit.unit)))
                        (sif ((0:Int)≤i54) <|
                        sif (Int.toNat i54 < List.length l52) <|
                        getK l52 ((0:Nat)+Int.toNat i54) fun d60=>
                        asSl d60 fun t61 l62=>
                        asB (zp0 i54 (D.bool false) l53) fun b63=>
                        jn (α:=(List D×Int×(Int×Int×Int×PUnit)×D×List D×List D×List (Int×D)×Int×(Tag×List D)×PUnit)×List (List D)×List (List D)×PUnit) (fun a64=>
                            letN (IntKind.wrap IntKind.i64 ((36:Int)+a64.fst.snd.fst)) fun n65=>
                            zat (zaL [a64.fst.snd.snd.snd.fst,D.int IntKind.i64 a64.fst.snd.snd.snd.snd.snd.snd.snd.fst,D.int IntKind.i64 n65] [a64.snd.fst,a64.snd.snd.fst]) fun r66=>
                            nilK r66.outs <|
                            nilK r66.tbs <|
                            zeq r66.r fun ts67=>
                            zaB ([Lf.any,Lf.any]) ts67 fun c68=>
                            za4 c68.fst fun l69=>
                            asI IntKind.i64 c68.snd.fst fun i70=>
                            brK (i70 != (0:Int))
                              (some (D.bool false))
                              (sif ((0:Nat)+List.length l69≤List.length l69) <|
                              zat (zax [D.sl Tag.lent (cut (0:Nat) (List.length l69) l69),D.sl a64.fst.snd.snd.snd.snd.snd.snd.snd.snd.fst.fst a64.fst.snd.snd.snd.snd.snd.snd.snd.snd.fst.snd]) fun r71=>
                              asB r71 fun b72=>
                              brK (!b72)
                                (some (D.bool false))
                                (letN (IntKind.wrap IntKind.i64 (a64.fst.snd.snd.snd.snd.snd.snd.snd.fst+(1:Int))) fun n73=>
                                sif (List.length a64.fst.snd.snd.snd.snd.fst=List.length a64.fst.snd.snd.snd.snd.fst) <|
                                sif (List.length a64.fst.snd.snd.snd.snd.snd.fst=List.length a64.fst.snd.snd.snd.snd.snd.fst) <|
                                again44 (((a64.fst.fst,a64.fst.snd.fst,(a64.fst.snd.snd.fst.fst,a64.fst.snd.snd.fst.snd.fst,a64.fst.snd.snd.fst.snd.snd.fst,PUnit.unit),a64.fst.snd.snd.snd.fst,a64.fst.snd.snd.snd.snd.fst,a64.fst.snd.snd.snd.snd.snd.fst,a64.fst.snd.snd.snd.snd.snd.snd.fst,n73,PUnit.unit),a64.snd.fst,a64.snd.snd.fst,PUnit.unit)))))
                          (fun j74=>
                          brK b63
                            (zat (zbo [D.agg [D.int IntKind.i64 i47,D.int IntKind.i64 i48,D.int IntKind.i64 i49],D.int IntKind.i64 i46,D.sl Tag.lent l45]) fun r75=>
                            za4 r75 fun l76=>
                            sif ((0:Nat)+List.length l76≤List.length l76) <|
                            zat (zaI [D.agg [D.int IntKind.i64 i47,D.int IntKind.i64 i48,D.int IntKind.i64 i49],D.int IntKind.i64 i46,D.sl Tag.lent (cut (0:Nat) (List.length l76) l76)]) fun r77=>
                            zeq r77 fun ts78=>
                            zaB ([Lf.any,Lf.any]) ts78 fun c79=>
                            za4 c79.fst fun l80=>
                            asB c79.snd.fst fun b81=>
                            sif ((0:Int)≤i54) <|
                            sif (Int.toNat i54 < List.length l80) <|
                            getK l80 ((0:Nat)+Int.toNat i54) fun d82=>
                            asSl d82 fun t83 l84=>
                            sif (List.length l51=List.length l51) <|
                            sif (List.length l52=List.length l52) <|
                            j74 (((l45,i46,(i47,i48,i49,PUnit.unit),x50,l51,l52,l53,i54,(t83,l84),PUnit.unit),U55,U56,PUnit.unit)))
                            (sif (List.length l51=List.length l51) <|
                            sif (List.length l52=List.length l52) <|
                            j74 (((l45,i46,(i47,i48,i49,PUnit.unit),x50,l51,l52,l53,i54,(t61,l62),PUnit.unit),U55,U56,PUnit.unit))))))
                      (sif ((0:Nat)+List.length l51≤List.length l51) <|
                      zat (zbM [x50,D.sl Tag.lent (cut (0:Nat) (List.length l51) l51)] [U55,U56]) fun r85=>
                      nilK r85.outs <|
                      zer r85.tbs fun c86 q87=>
                      nilK q87 <|
                      asI IntKind.i64 r85.r fun i88=>
                      brK (i88 == (0:Int))
                        (zat (zaR [x50] [U55,c86]) fun r89=>
                        nilK r89.outs <|
                        nilK r89.tbs <|
                        asI IntKind.i64 r89.r fun i90=>
                        brK (i90 == (0:Int))
                          (zat (za6 []) fun r91=>
                          asB r91 fun b92=>
                          some (D.bool b92))
                          (some (D.bool false)))
                        (some (D.bool false))))
                    (((a21.fst.fst,a21.fst.snd.snd.fst,(a21.fst.snd.snd.snd.fst.fst,a21.fst.snd.snd.snd.fst.snd.fst,a21.fst.snd.snd.snd.fst.snd.snd.fst,PUnit.unit),a21.fst.snd.snd.snd.snd.fst,a21.fst.snd.snd.snd.snd.snd.fst,l27,m40,(0:Int),PUnit.unit),c30,c32,PUnit.unit))))))
          (fun j93=>
          brK (n20 == (6:Int))
            (zat (zaa [D.int IntKind.i64 a14.fst.snd.snd.snd.fst,D.int IntKind.i64 (9:Int)]) fun r94=>
            asI IntKind.i64 r94 fun i95=>
            sif (List.length a14.fst.snd.snd.snd.snd.snd.snd.fst=List.length a14.fst.snd.snd.snd.snd.snd.snd.fst) <|
            j93 (((a14.fst.fst,a14.fst.snd.fst,n17,(a14.fst.snd.snd.snd.snd.fst.fst,a14.fst.snd.snd.snd.snd.fst.snd.fst,a14.fst.snd.snd.snd.snd.fst.snd.snd.fst,PUnit.unit),a14.fst.snd.snd.snd.snd.snd.fst,a14.fst.snd.snd.snd.snd.snd.snd.fst,i95,PUnit.unit),a14.snd.fst,a14.snd.snd.fst,PUnit.unit)))
            (sif (List.length a14.fst.snd.snd.snd.snd.snd.snd.fst=List.length a14.fst.snd.snd.snd.snd.snd.snd.fst) <|
            j93 (((a14.fst.fst,a14.fst.snd.fst,n17,(a14.fst.snd.snd.snd.snd.fst.fst,a14.fst.snd.snd.snd.snd.fst.snd.fst,a14.fst.snd.snd.snd.snd.fst.snd.snd.fst,PUnit.unit),a14.fst.snd.snd.snd.snd.snd.fst,a14.fst.snd.snd.snd.snd.snd.snd.fst,i19,PUnit.unit),a14.snd.fst,a14.snd.snd.fst,PUnit.unit)))))
      (fun j96=>
      brK (i13 == (0:Int))
        (zat (zaa [D.int IntKind.i64 a4,D.int IntKind.i64 c3.snd.fst]) fun r97=>
        asI IntKind.i64 r97 fun i98=>
        zat (zbc [r4.r,D.int IntKind.i64 i98] [c5,c7]) fun r99=>
        nilK r99.outs <|
        zer r99.tbs fun c100 q101=>
        nilK q101 <|
        asI IntKind.i64 r99.r fun i102=>
        sif (List.length l11=List.length l11) <|
        j96 (((a1,a2,a5,a6,(c3.fst,c3.snd.fst,c3.snd.snd.fst,PUnit.unit),r4.r,l11,PUnit.unit),c5,c100,PUnit.unit)))
        (sif (List.length l11=List.length l11) <|
        j96 (((a1,a2,a5,a6,(c3.fst,c3.snd.fst,c3.snd.snd.fst,PUnit.unit),r4.r,l11,PUnit.unit),c5,c7,PUnit.unit)))))
theorem zg9 (zbu:List D→Option D) (zaZ:List D→List Tb→Option Ans) (zbw:List D→Option D) (zaa:List D→Option D) (zbc:List D→List Tb→Option Ans) (zac:List D→Option D) (zak:List D→Option D) (zaI:List D→Option D) (zbL:List D→List Tb→Option Ans) (zaR:List D→List Tb→Option Ans) (za6:List D→Option D) (zbn:List D→List Tb→Option Ans) (zal:List D→List Tb→Option Ans) (zbo:List D→Option D) (zaL:List D→List Tb→Option Ans) (zax:List D→Option D) (zbM:List D→List Tb→Option Ans) (tga1:Tag) (tga2:Tag) (a0:Int) (a1:List D) (a2:List D) (a3:Int) (a4:Int) (a5:Int) (a6:Int):denT Try.prog (zaA [(ID.wattleplay_Good,(.pure [0] zbu)),(ID.wattlelaw14_Filled,(.st [] [0] [(3840,true),(7649,true)] zaZ)),(ID.wattleplay_Live,(.pure [1] zbw)),(ID.wattlekeep_Within,(.pure [0] zaa)),(ID.bench_Bench_Fail,(.st [] [0] [(3840,false),(7649,true)] zbc)),(ID.wattleref01_Width,(.pure [0] zac)),(ID.wattleplay_Sectors,(.pure [1] zak)),(ID.wattleref01_Fill,(.pure [1,0] zaI)),(ID.stripe_Write,(.st [] [0] [(3840,true),(7649,true)] zbL)),(ID.bench_Bench_Pending,(.st [] [0] [(3840,false),(7649,false)] zaR)),(ID.wattlelaw14_wakes,(.pure [0] za6)),(ID.wattlelaw14_lost,(.st [] [0] [(3840,false),(7649,false)] zbn)),(ID.bench_Bench_Failed,(.st [] [0] [(3840,false),(7649,false)] zal)),(ID.wattlelaw14_Data,(.pure [1] zbo)),(ID.bench_Bench_Read,(.st [] [1,0] [(3840,false),(7649,false)] zaL)),(ID.wattlekeep_Same_byte,(.pure [0] zax)),(ID.stripe_Flush,(.st [] [0] [(3840,false),(7649,true)] zbM))]) zdx [0] ID.wattlelaw14_StripeWrites [.int .i64 a0,.sl tga1 a1,.sl tga2 a2,.int .i64 a3,.int .i64 a4,.int .i64 a5,.int .i64 a6]=sif (D.nohL [.int .i64 a0,.sl tga1 a1,.sl tga2 a2,.int .i64 a3,.int .i64 a4,.int .i64 a5,.int .i64 a6]=true) (zcS zbu zaZ zbw zaa zbc zac zak zaI zbL zaR za6 zbn zal zbo zaL zax zbM a0 (D.lentL a1) (D.lentL a2) a3 a4 a5 a6):=by kernel_rfl
theorem zfZ (tga1:Tag) (tga2:Tag) (a0:Int) (a1:List D) (a2:List D) (a3:Int) (a4:Int) (a5:Int) (a6:Int):zcR [.int .i64 a0,.sl tga1 a1,.sl tga2 a2,.int .i64 a3,.int .i64 a4,.int .i64 a5,.int .i64 a6]=sif (D.nohL [.int .i64 a0,.sl tga1 a1,.sl tga2 a2,.int .i64 a3,.int .i64 a4,.int .i64 a5,.int .i64 a6]=true) (zcS zbu zaZ zbw zaa zbc zac zak zaI zbL zaR za6 zbn zal zbo zaL zax zbM a0 (D.lentL a1) (D.lentL a2) a3 a4 a5 a6):=zg9 zbu zaZ zbw zaa zbc zac zak zaI zbL zaR za6 zbn zal zbo zaL zax zbM tga1 tga2 a0 a1 a2 a3 a4 a5 a6
end Wf

namespace Wf
open Go Go.RowKit Go.Proofs
set_option linter.unusedSimpArgs false
set_option linter.unusedVariables false
set_option maxHeartbeats 4000000
theorem stripe_writes (a0:Int) (l m:List Int) (a3 a4 a5 a6:Int) (tg tg':Tag):zcR [.int .i64 a0,.sl tg (intL l),.sl tg' (intL m),.int .i64 a3,.int .i64 a4,.int .i64 a5,.int .i64 a6]=some (.bool true):=by
  rw [zfZ,zjS,zjS]
  rw [zab (by simp [D.nohL,D.noh,zBe])]
  unfold zcS
  have hgood:=zz6 a0
  have hk:=zyd a0
  generalize zu2 a0=g at*
  have hgD:g.D=.agg [.int .i64 g.l,.int .i64 g.d,.int .i64 g.c]:=rfl
  rw [hgD] at hgood
  have hdd:=ok_d hk
  have hll:=zhl.1 hk
  have hww:=zd1 hk
  have hdn:((g.d.toNat:Nat):Int)=g.d:=by omega
  have hfr:=zyy [] [] hk (n:=g.d.toNat) (by omega) (by omega) .lent l
  simp only [List.length_nil] at hfr
  obtain ⟨U,V,idx,B0,hfil,hB0,hS0,hw0,hc0,_⟩:=hfr
  rw [hdn] at hfil
  have hlive:=zAI a3 (k:=g.d.toNat) (by omega) (by omega)
  rw [hdn] at hlive
  have hlen:=zAH a3 g.d.toNat
  generalize zAG a3 g.d.toNat=live at*
  have w3:=zkC a4 3 (by omega) (by omega)
  have wd:=zkC a4 g.d (by omega) (by omega)
  have w18:=zkC a5 18 (by omega) (by omega)
  have w9:=zkC a6 9 (by omega) (by omega)
  have d0:=Int.emod_nonneg a4 (show g.d≠0 by omega)
  have d1:=Int.emod_lt_of_pos a4 (show 0 < g.d by omega)
  have r0:=Int.emod_nonneg a5 (show (18:Int)≠0 by omega)
  have r1:=Int.emod_lt_of_pos a5 (show (0:Int) < 18 by omega)
  have c0:=Int.emod_nonneg a6 (show (9:Int)≠0 by omega)
  have c1:=Int.emod_lt_of_pos a6 (show (0:Int) < 9 by omega)
  generalize a4 % g.d=xd at*
  generalize a4 % 3=x3 at*
  generalize a5 % 18=r18 at*
  generalize a6 % 9=c9 at*
  let W:Ben→Prop:=fun B=>Run U V 0 idx B g.d.toNat 0∧P0 U 0 idx B0=P0 U 0 idx B∧(∀ j:Nat,j < g.d.toNat→B.nP j=0)∧
    ∀ d s:Int,0≤d→d < g.d→B.failed d=false→0≤s→s < 16→B.cur d (36+s)=atR g s (rowL g l s.toNat) d
  have hW0:W B0:=⟨hB0,rfl,fun j hj=>by unfold Ben.nP; rw [(hS0.dk _).2]; rfl,fun d s d0 d1 _ s0 s1=>hc0 d s d0 d1 (by omega) s0 s1⟩
  obtain ⟨B3,e3,q3,hB3,f3,b3,c3⟩:=hB0.fail (d:=xd) d0 (by omega)
  have hW3:W B3:=by
    refine ⟨hB3,q3,fun j hj=>?_,fun d s e0 e1 hf s0 s1=>?_⟩
    · rw [b3]
      unfold Ben.fail Ben.nP
      rw [if_pos (hB0.is d0 (by omega)),zgI (hB0.is d0 (by omega)) (by omega)]
      split
      · rfl
      · rw [(hS0.dk _).2]; rfl
    · rw [f3 d e0 (by omega)] at hf
      rw [c3 d _ e0 (fun q=>by simp [q] at hf),hc0 d s e0 e1 (by omega) s0 s1]
  simp (disch:=first | omega | assumption | (simp; done) | fail) [-List.all_eq_true,-zDf,-zAD,hgood,hfil,hlive,w3]
  refine zAE (fun a=>∃ B,W B∧a=((intL l,intL m,a5,a6,(g.l,g.d,g.c,PUnit.unit),.h kB 0 0,live.map D.bool,PUnit.unit),P0 U 0 idx B0,P1 V idx B,PUnit.unit)) ?_ ?_
  rotate_left
  · intro j hj
    by_cases h:x3=0
    · simp (disch:=first | omega | assumption | (simp; done) | fail) [-List.all_eq_true,h,wd,e3]
      exact hj _ ⟨B3,hW3,rfl⟩
    · simp (disch:=first | omega | assumption | (simp; done) | fail) [-List.all_eq_true,h]
      exact hj _ ⟨B0,hW0,rfl⟩
  rintro _ ⟨B,⟨hB,hP,hN,hC⟩,rfl⟩
  have hpend0:B.pending=0:=zoY fun j hj=>hN j (by have:=hB.num; unfold Ben.n at this; omega)
  dsimp only
  simp (disch:=first | omega | assumption | (simp; done) | fail) [-List.all_eq_true,-zDf,-zAD,w18,zil,zaq]
  refine zAE (fun a=>∃ c:Nat,c < 10∧a=((intL l,intL m,r18 - 1,(g.l,g.d,g.c,PUnit.unit),.h kB 0 0,live.map D.bool,(c:Int),PUnit.unit),P0 U 0 idx B0,P1 V idx B,PUnit.unit)) ?_ ?_
  rotate_left
  · intro j hj
    by_cases h:a6.tmod 7=6
    · simp (disch:=first | omega | assumption | (simp; done) | fail) [-List.all_eq_true,h,w9]
      exact hj _ ⟨c9.toNat,by omega,by rw [show ((c9.toNat:Nat):Int)=c9 by omega]⟩
    · simp (disch:=first | omega | assumption | (simp; done) | fail) [-List.all_eq_true,h]
      exact hj _ ⟨g.width.toNat,by omega,by rw [show ((g.width.toNat:Nat):Int)=g.width by omega]⟩
  rintro _ ⟨c,hc,rfl⟩
  dsimp only
  have hsp:=zkE .lent m (n:=c) (by omega)
  have hsec:=ztQ m c
  have hcl:=zBU m c
  generalize secL m c=data at*
  have hrf:=ztS g (r18 - 1) .lent (ps:=fP data) (by simp; omega) (by intro x hx; obtain ⟨y,hy,rfl⟩:=List.mem_map.1 hx; exact hsec y hy)
  rw [zoW] at hrf
  cases hfg:zqv g (r18 - 1) data with
  | none=>
    have hsw:=zoX hB.at' (by have:=hB.w; omega) .lent live g (r18 - 1) .lent (ps:=fP data) (by simp; omega) (by intro x hx; obtain ⟨y,hy,rfl⟩:=List.mem_map.1 hx; exact hsec y hy)
    have:B.sWrite live g (r18 - 1) data=(1,B):=by unfold Ben.sWrite; rw [if_pos hfg]
    rw [zoW,this,←hP] at hsw
    have hpe:=zqW hB.at' (by have:=hB.w; omega)
    rw [hpend0,←hP] at hpe
    rw [hfg] at hrf
    simp (disch:=first | omega | assumption | (simp; done) | fail) [-List.all_eq_true,hsp,hrf,solD,hsw,hpe,zAB]
  | some o=>
    have hf0:=hfg
    unfold zqv at hf0
    split at hf0
    rotate_left
    · cases hf0
    rename_i hcond
    obtain ⟨hr,hlw,_⟩:=hcond
    cases hf0
    have hR:Row g data:=⟨hlw,hsec⟩
    obtain ⟨_,rr0,rr1⟩:=zbW.1 hr
    rw [hfg] at hrf
    generalize hrr:r18 - 1=r at*
    obtain ⟨B1,e1,hB1,f1,bb1,cc1⟩:=hB.write (by omega) .lent live hr .lent hR
    rw [←hP] at e1
    obtain ⟨B2,e2,q2,hB2,f2,bb2,cc2⟩:=hB1.flush (by omega) .lent live
    have hup1:∀ d,B1.up live d=B.up live d:=fun d=>by unfold Ben.up; rw [hB1.num,hB.num,f1]
    have hok1:=hB1.at'.ok
    have hlost:=zDV hB1.at' .lent live hk
    have hn1:∀ j:Nat,j < g.d.toNat→B1.nP j=if B.up live j=true then 1 else 0:=by
      intro j hj
      rw [bb1,zB8 hB.at'.ok hr hR (by omega),hN j hj,Nat.zero_add]
      by_cases hu:B.up live (j:Int)=true
      · rw [if_pos ⟨by omega,hu⟩,if_pos hu]
      · rw [if_neg (fun q=>hu q.2),if_neg hu]
    have hds1:B1.ds.length=g.d.toNat:=by have:=hB1.num; unfold Ben.n at this; omega
    have hds2:B2.ds.length=g.d.toNat:=by have:=hB2.num; unfold Ben.n at this; omega
    have hpend1:B1.pending=g.d - (B1.lostN live g:Int):=by
      unfold Ben.pending
      rw [hds1,ztV B1 (fun j=>B.up live j) _ hn1]
      have:=List.length_eq_countP_add_countP (fun (j:Nat)=>B.up live j) (l:=List.range g.d.toNat)
      rw [List.length_range] at this
      have h2:B1.lostN live g=(List.range g.d.toNat).countP fun (a:Nat)=>decide (¬ B.up live a=true):=by
        unfold Ben.lostN
        apply List.countP_congr
        intro j _
        rw [hup1]; simp
      rw [h2]; omega
    have hpend2:B2.pending=0:=zoY fun j hj=>by
      rw [bb2,zB9 hok1 (by omega)]
      by_cases hu:B1.up live (j:Int)=true
      · rw [if_pos hu]
      · rw [if_neg hu,hn1 j (by omega),if_neg (by rw [←hup1]; exact hu)]
    have hp1:=zqW hB1.at' (by have:=hB1.w; omega)
    have hp2:=zqW hB2.at' (by have:=hB2.w; omega)
    rw [hpend1] at hp1
    rw [hpend2,←q2] at hp2
    have hll1:=zAF B1 live g
    have hfd:=zsw B1 live g.d.toNat
    have hlo:(B1.lostN live g:Int)≤g.d:=by
      have:B1.lostN live g≤g.d.toNat:=by
        unfold Ben.lostN
        exact Nat.le_trans List.countP_le_length (by simp)
      omega
    generalize zlB B1 live g.d.toNat=E at*
    have hdata:=zAx g hk r rr0 .lent l
    have hold:=ztS g r .lent (ps:=fP (rowL g l r.toNat)) (by have:=(zk4 hk l r.toNat).len; simp; omega) (by intro x hx; obtain ⟨y,hy,rfl⟩:=List.mem_map.1 hx; exact (zk4 hk l r.toNat).sec y hy)
    rw [zoW,zqw hr (zk4 hk l r.toNat)] at hold
    simp (disch:=first | omega | assumption | (simp; done) | fail) [-List.all_eq_true,-zDf,-zAD,hsp,hrf,solD,e1,hlost,hp1,hll1,zaq]
    let st:Nat→(List D×Int×(Int×Int×Int×PUnit)×D×List D×List D×List (Int×D)×Int×PUnit)×List (List D)×List (List D)×PUnit:=fun k=>((intL l,r,(g.l,g.d,g.c,PUnit.unit),.h kB 0 0,live.map D.bool,pL (fP (zcC g r data)),E,(k:Int),PUnit.unit),P0 U 0 idx B1,P1 V idx B1,PUnit.unit)
    show zce _ (st 0)=_
    refine zcy st g.d.toNat (by omega) ?_ ?_
    · intro again k hk'
      dsimp only [st]
      have hkd:(k:Int) < g.d:=by omega
      have hfa:=ztN hB1.at' (k:Int)
      cases hfl:B1.failed (k:Int)
      · rw [hfl] at hfa
        have hg1:(pL (fP (zcC g r data)))[k]? =some (.sl .fresh (uL (atR g r data k))):=zcv (zsq (zgt hkd))
        have hg2:(pL (fP (zcC g r (rowL g l r.toNat))))[k]? =some (.sl .fresh (uL (atR g r (rowL g l r.toNat) k))):=zcv (zsq (zgt hkd))
        have hrd:=zAd hB1.at' (by have:=hB1.w; omega) (k:Int) (36+r)
        have hisk:=hB1.is (d:=(k:Int)) (by omega) (by omega)
        have hrdv:B1.read (k:Int) (36+r)=(B1.cur k (36+r),0):=by
          unfold Ben.read
          rw [if_neg (by rw [may0.2 ⟨hisk,hB1.down⟩]; simp)]
          unfold DS.read
          rw [zjX hisk] at hfl
          rw [if_neg (by rw [znX.2 ⟨hfl,by omega,by omega⟩]; simp)]; rfl
        rw [hrdv] at hrd
        have hfk:B.failed (k:Int)=false:=by rw [←f1]; exact hfl
        have hcur:=cc1 k (36+r) (by omega) hkd (by omega) (by omega)
        have hrsl:=zhY g r data
        have hrsl2:=zhY g r (rowL g l r.toNat)
        by_cases hu:B.up live (k:Int)=true
        · have hE:=hfd k
          rw [if_neg (by rw [hup1]; simp [hu])] at hE
          rw [if_pos ⟨rfl,hu⟩] at hcur
          rw [hcur] at hrd
          have hlook:zp0 (k:Int) (.bool false) E=.bool false:=by unfold zp0; rw [hE]; rfl
          have hsm:=zqT .lent .fresh (atR g r data k) (atR g r data k) (by rw [(zu6 hr hR (by omega) hkd).len]; omega)
          simp (disch:=first | omega | assumption | (simp; done) | fail) [-List.all_eq_true,hkd,hfa,hk',hrsl,zai hg1,hlook,hrd,hsm,zaq]
        · have hE:=hfd k
          rw [if_pos ⟨by omega,by rw [hup1]; simpa using hu⟩] at hE
          rw [if_neg (fun q=>hu q.2),hC k r (by omega) hkd hfk rr0 rr1] at hcur
          rw [hcur] at hrd
          have hlook:zp0 (k:Int) (.bool false) E=.bool true:=by unfold zp0; rw [hE]; rfl
          have hsm:=zqT .lent .fresh (atR g r (rowL g l r.toNat) k) (atR g r (rowL g l r.toNat) k) (by rw [(zu6 hr (zk4 hk l r.toNat) (by omega) hkd).len]; omega)
          simp (disch:=first | omega | assumption | (simp; done) | fail) [-List.all_eq_true,hkd,hfa,hk',hrsl,hrsl2,zai hg1,zai hg2,hlook,hdata,hold,solD,hrd,hsm,zaq]
      · rw [hfl] at hfa
        simp (disch:=first | omega | assumption | (simp; done) | fail) [-List.all_eq_true,hkd,hfa,zaq]
    · intro again
      dsimp only [st]
      have hkd:¬ ((g.d.toNat:Nat):Int) < g.d:=by omega
      simp (disch:=first | omega | assumption | (simp; done) | fail) [-List.all_eq_true,hkd,e2,hp2,zAB]
end Wf

