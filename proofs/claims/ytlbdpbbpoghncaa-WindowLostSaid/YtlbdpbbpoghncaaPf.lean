/- A part of the proof: lemmas that the law's row leans on. -/
import Derived.Test.YtlbdpbbpoghncaaPe
import Derived.Test.YtlbdpbbpoghncaaPd
set_option linter.all false
namespace Wf
open Go Go.RowKit Go.Proofs
set_option linter.unusedSimpArgs false
set_option linter.unusedVariables false
theorem zAm (l:List Int):(intL l).all D.free=true:=by simp [intL,D.free]
theorem zAn (l:List Int) (n:Int):intL l++[.int .i64 n]=intL (l++[n]):=by simp [intL]
def zwy (ls:List (List Int)) (k:Nat):List Int:=((List.range k).filter fun i=>(ls.getD i []).isEmpty).map Int.ofNat
def miss (ls:List (List Int)):List Int:=zwy ls ls.length
theorem zyt (ls:List (List Int)) (k:Nat):zwy ls (k+1)=zwy ls k++if (ls.getD k []).isEmpty then [(k:Int)] else []:=by
  unfold zwy
  rw [List.range_succ,List.filter_append,List.map_append]
  congr 1
  by_cases h:(ls.getD k []).isEmpty=true
  · rw [if_pos h,List.filter_cons_of_pos (p:=fun i=>(ls.getD i []).isEmpty) h]; rfl
  · rw [if_neg h,List.filter_cons_of_neg (p:=fun i=>(ls.getD i []).isEmpty) h]; rfl
theorem zAo (ls:List (List Int)) (k:Nat):(zwy ls k).length≤k:=by
  unfold zwy
  rw [List.length_map]
  exact Nat.le_trans (List.length_filter_le _ _) (by simp)
theorem znF (tg:Tag) (ps:List Part) (hn:ps.length < 100000):zbB [.sl tg (pL ps)]=some (.sl .own (intL (miss (ps.map (·.2))))):=by
  rw [znc,zdX]
  have hm:(ps.map fun x=>(zcp x.1 x.2,x.2)).map (·.2)=ps.map (·.2):=by rw [List.map_map]; rfl
  have hlen:(ps.map fun x=>(zcp x.1 x.2,x.2)).length=ps.length:=by simp
  rw [←hm]
  rw [←hlen] at hn
  generalize (ps.map fun x=>(zcp x.1 x.2,x.2))=rs at*
  unfold zgW
  let st:Nat→(List D×List D×Int×Int×PUnit)×PUnit:=fun k=>((intL (zwy (rs.map (·.2)) k),pL rs,((pL rs).length:Int),(k:Int),PUnit.unit),PUnit.unit)
  have hst:st 0=(([],pL rs,((pL rs).length:Int),0,PUnit.unit),PUnit.unit):=rfl
  rw [←hst]
  refine zb2 st rs.length (by omega) ?_ ?_
  · intro again k hk
    dsimp only [st]
    obtain ⟨x,hx⟩:∃ x,rs[k]? =some x:=⟨_,List.getElem?_eq_getElem hk⟩
    have hd:decide ((k:Int) < ((pL rs).length:Int))=true:=by simp; omega
    have hk2:=zAo (rs.map (·.2)) k
    have hgd:(rs.map (·.2)).getD k []=x.2:=by simp [List.getD_eq_getElem?_getD,hx]
    rw [hd,zaY,zab (by omega),zaB (by simpa using zdh hx),zex,zyt,hgd]
    by_cases he:x.2=[]
    · have hb:(((uL x.2).length:Int) == 0)=true:=by simp [he]
      rw [hb,zaY,zab (by rw [zfF]; omega),zab (by rfl),zaI,zah (by omega) (by omega),zab (by simp),zAn,he]
      rfl
    · have hb:(((uL x.2).length:Int) == 0)=false:=by simp; omega
      have hb2:x.2.isEmpty=false:=by simp [he]
      rw [hb,zas,zaI,zah (by omega) (by omega),zab (by rfl),hb2]
      simp
  · intro again
    dsimp only [st]
    have hd:decide ((rs.length:Int) < ((pL rs).length:Int))=false:=by simp
    rw [hd,zas,zab (by rfl),zab (zAm _)]
    simp [miss]
theorem zFQ (t:Tag) (l:List Int) (n:Int):za8 [.sl t (uL l),.at_ (.int .i64 n)]=some (.bool (!fitS n l)):=by
  rw [zn9,zds]
  unfold zhG fitS
  cases l with
  | nil=>simp
  | cons a l=>
    have hd:decide (((uL (a::l)).length:Int) > 0)=true:=by simp
    rw [hd,zaY]
    simp [bne]
    rfl
theorem zrw (tg:Tag) (ps:List Part) (hn:ps.length < 100000) (n:Int):
    ∃ r,zaH [.sl tg (pL ps),.fn ID.erase_fits_1 [] [.at_ (.int .i64 n)]]=some r∧∃ i:Int,r=.int .i64 i∧decide (i≥0)= !(ps.all fun x=>fitS n x.2):=by
  rw [zef,zdX]
  have hm:(ps.all fun x=>fitS n x.2)=((ps.map fun x=>(zcp x.1 x.2,x.2)).all fun x=>fitS n x.2):=by rw [List.all_map]; rfl
  have hlen:(ps.map fun x=>(zcp x.1 x.2,x.2)).length=ps.length:=by simp
  rw [hm]
  rw [←hlen] at hn
  generalize (ps.map fun x=>(zcp x.1 x.2,x.2))=rs at*
  unfold zcb
  refine zBc (fun a=>(rs.length:Nat) - a.1.2.2.2.1.toNat) (fun r=>∃ i:Int,r=D.int .i64 i∧decide (i≥0)= !(rs.all fun x=>fitS n x.2))
    (fun a=>∃ k:Nat,k≤rs.length∧((rs.take k).all fun x=>fitS n x.2)=true∧a=((pL rs,n,(rs.length:Int),(k:Int),PUnit.unit),PUnit.unit)) ?_ ⟨0,by omega,by simp,by rw [zAk]; rfl⟩ (by simp; omega)
  rintro again _ ⟨k,hk,he,rfl⟩ hag
  dsimp only
  by_cases hkm:k < rs.length
  · obtain ⟨x,hx⟩:∃ x,rs[k]? =some x:=⟨_,List.getElem?_eq_getElem hkm⟩
    have hd:decide ((k:Int) < (rs.length:Int))=true:=by simp; omega
    rw [hd,zaY,zab (by omega),zaB (by simpa using zdh hx),zex,zFQ,zae,zcQ]
    cases hf:fitS n x.2
    · refine ⟨_,rfl,_,rfl,?_⟩
      have:(rs.all fun x=>fitS n x.2)=false:=by
        rw [List.all_eq_false]
        exact ⟨x,List.mem_of_getElem? hx,by simp [hf]⟩
      rw [this]
      simp
    · simp only [Bool.not_true,zas,zaI]
      rw [zah (by omega) (by omega)]
      refine hag _ ⟨k+1,by omega,?_,rfl⟩ (by simp; omega)
      rw [List.take_add_one,hx,List.all_append,he]
      simp [hf]
  · have hd:decide ((k:Int) < (rs.length:Int))=false:=by simp; omega
    rw [hd,zas]
    refine ⟨_,rfl,_,rfl,?_⟩
    rw [List.take_of_length_le (by omega)] at he
    rw [he]
    rfl
theorem erase_fits (tg:Tag) (ps:List Part) (hn:ps.length < 100000) (n:Int):zb1 [.int .i64 n,.sl tg (pL ps)]=some (.bool (ps.all fun x=>fitS n x.2)):=by
  rw [zqz,zdX]
  have hm:(ps.all fun x=>fitS n x.2)=((ps.map fun x=>(zcp x.1 x.2,x.2)).all fun x=>fitS n x.2):=by rw [List.all_map]; rfl
  have hlen:(ps.map fun x=>(zcp x.1 x.2,x.2)).length=ps.length:=by simp
  rw [hm]
  rw [←hlen] at hn
  generalize (ps.map fun x=>(zcp x.1 x.2,x.2))=rs at*
  unfold zkn
  have:zay [.sl .lent (pL rs),.fn ID.erase_fits_1 [] [.at_ (.int .i64 n)]]=some (.bool (!(rs.all fun x=>fitS n x.2))):=by
    rw [zdH,zdX]
    have hm:(rs.all fun x=>fitS n x.2)=((rs.map fun x=>(zcp x.1 x.2,x.2)).all fun x=>fitS n x.2):=by rw [List.all_map]; rfl
    have hlen:(rs.map fun x=>(zcp x.1 x.2,x.2)).length=rs.length:=by simp
    rw [hm]
    rw [←hlen] at hn
    generalize (rs.map fun x=>(zcp x.1 x.2,x.2))=qs at*
    unfold zbZ
    obtain ⟨r,h1,i,rfl,h2⟩:=zrw .lent qs hn n
    rw [h1,zae,zaU,h2]
  rw [this,zae,zcQ,Bool.not_not]
theorem zDD {l:List D} {n:Nat} (h:l.length=n):cut 0 n l=l:=by subst h; exact zdc l
theorem erase_filled (n:Nat) (hn0:n < 100000) (tg:Tag) (ps:List Part) (hn:ps.length < 100000):zbS [.int .i64 n,.sl tg (pL ps)]=some (.sl .own (pL (ps.map fun x=>(Tag.fresh,zj6 n x.2)))):=by
  rw [zoc,zdX]
  have hm:(ps.map fun x=>(Tag.fresh,zj6 n x.2))=((ps.map fun x=>(zcp x.1 x.2,x.2)).map fun x=>(Tag.fresh,zj6 n x.2)):=by rw [List.map_map]; rfl
  have hlen:(ps.map fun x=>(zcp x.1 x.2,x.2)).length=ps.length:=by simp
  rw [hm]
  rw [←hlen] at hn
  generalize (ps.map fun x=>(zcp x.1 x.2,x.2))=rs at*
  unfold zhH
  let st:Nat→(Int×List D×List D×Int×Int×PUnit)×PUnit:=fun k=>(((n:Int),pL ((rs.take k).map fun x=>(Tag.fresh,zj6 n x.2)),pL rs,((pL rs).length:Int),(k:Int),PUnit.unit),PUnit.unit)
  have hst:st 0=(((n:Int),[],pL rs,((pL rs).length:Int),0,PUnit.unit),PUnit.unit):=rfl
  rw [←hst]
  refine zb2 st rs.length (by omega) ?_ ?_
  · intro again k hk
    dsimp only [st]
    obtain ⟨x,hx⟩:∃ x,rs[k]? =some x:=⟨_,List.getElem?_eq_getElem hk⟩
    have hd:decide ((k:Int) < ((pL rs).length:Int))=true:=by simp; omega
    have hfill:([]++List.take (Int.toNat (n:Int)) (uL x.2)++List.drop ((0:Nat)+List.length (List.take (Int.toNat (n:Int)) (uL x.2))) (List.replicate (Int.toNat (n:Int)) (D.int IntKind.u8 (0:Int))))=uL (zj6 n x.2):=by
      rw [Int.toNat_natCast,zwb,zqn,zwc,Nat.zero_add,zd8,List.nil_append,←zzU]; rfl
    rw [hd,zaY,zab (by omega),zaB (by simpa using zdh hx),zex,zab (by omega),zab (by rfl),zab (by omega),zab (by omega),zab (by simp),zab (zxn _),hfill,zab (by simp [zh8]),zab (by simp; omega),zab (by rfl),
      zaI,zah (by omega) (by omega),zab (by simp),zDD (by simp [zh8]),zAl]
    have:(rs.take (k+1)).map (fun x=>(Tag.fresh,zj6 n x.2))=(rs.take k).map (fun x=>(Tag.fresh,zj6 n x.2))++[(Tag.fresh,zj6 n x.2)]:=by rw [List.take_add_one,hx]; simp
    rw [this]
    rfl
  · intro again
    dsimp only [st]
    have hd:decide ((rs.length:Int) < ((pL rs).length:Int))=false:=by simp
    rw [hd,zas,zab (by rfl),List.take_length,zab (zqW (by intro x hx; obtain ⟨y,hy,rfl⟩:=List.mem_map.1 hx; rfl))]
def fP (ls:List (List Int)):List Part:=ls.map fun l=>(Tag.fresh,l)
@[simp] theorem zCx (ls:List (List Int)):(fP ls).length=ls.length:=by simp [fP]
theorem zxz (ls:List (List Int)):(fP ls).map (·.2)=ls:=by
  unfold fP
  rw [List.map_map]
  exact List.map_id ls
theorem zf4 (ls:List (List Int)):(pL (fP ls)).all D.free=true:=zqW (by intro x hx; obtain ⟨y,_,rfl⟩:=List.mem_map.1 hx; rfl)
theorem zE1 (ls:List (List Int)) (i:Nat) (l:List Int):(fP ls).set i (Tag.fresh,l)=fP (ls.set i l):=by simp [fP,List.map_set]
theorem zvr {ls:List (List Int)} {k:Nat} {l:List Int} (h:ls[k]? =some l):(fP ls)[k]? =some (Tag.fresh,l):=by simp [fP,h]
theorem zBR (ps:List Part):(ps.map fun x=>(Tag.fresh,zj6 32 x.2))=fP (zct (ps.map (·.2))):=by simp [fP,zct]
theorem zBS (ls:List (List Int)):miss ls=(zc7 ls).map Int.ofNat:=rfl
theorem zyu (k:Nat) (hk:k < 100000):zaR [.int .i64 k]=some (.int .u8 (pow8 (k % 255))):=by
  have h:=zvq (k % 255) (Nat.mod_lt _ (by omega))
  rw [zqC] at h ⊢
  unfold zpo at h ⊢
  have e1:Int.tmod (k:Int) 255=((k % 255:Nat):Int):=by rw [Int.tmod_eq_emod_of_nonneg (by omega)]; omega
  have e2:Int.tmod ((k % 255:Nat):Int) 255=((k % 255:Nat):Int):=by rw [Int.tmod_eq_emod_of_nonneg (by omega)]; omega
  rw [e1]
  rw [e2] at h
  exact h
theorem zE2 {a:Nat} (ha:a < 256):zeu [.int .u8 a]=some (.int .i64 (if logN a=255 then -1 else (logN a:Int))):=by
  rw [zwp]
  unfold ztw
  refine zgx (a:=(((a:Int),(1:Int),(0:Int),PUnit.unit),PUnit.unit)) (fun x=>(255 - x.1.2.2.1).toNat) (fun x=>some (D.int .i64 (if logF a (255 - x.1.2.2.1.toNat) x.1.2.1.toNat x.1.2.2.1.toNat=255 then -1 else (logF a (255 - x.1.2.2.1.toNat) x.1.2.1.toNat x.1.2.2.1.toNat:Int))))
    (fun x=>∃ n y:Nat,n≤255∧y < 256∧x=(((a:Int),(y:Int),(n:Int),PUnit.unit),PUnit.unit)) ?_ ⟨0,1,by omega,by omega,rfl⟩ (by simp)
  rintro again _ ⟨n,y,hn,hy,rfl⟩ hag
  dsimp only
  rw [Int.toNat_natCast,Int.toNat_natCast]
  by_cases h:n < 255
  · have e:255 - n=(255 - (n+1))+1:=by omega
    have hd:decide ((n:Int) < 255)=true:=by simp; omega
    rw [hd,zaY,e]
    by_cases hya:y=a
    · subst hya
      have:logF y (255 - (n+1)+1) y n=n:=by unfold logF; rw [if_pos rfl]
      rw [this,if_neg (by omega)]
      simp
    · have hb:((y:Int) == (a:Int))=false:=by simp; omega
      have:logF a (255 - (n+1)+1) y n=logF a (255 - (n+1)) (dblN y) (n+1):=by rw [logF,if_neg hya]
      have hh:=hag (((a:Int),((dblN y:Nat):Int),((n+1:Nat):Int),PUnit.unit),PUnit.unit) ⟨n+1,dblN y,by omega,zj4 hy,rfl⟩ (by dsimp only; omega)
      dsimp only at hh
      rw [Int.toNat_natCast,Int.toNat_natCast] at hh
      rw [hb,zas,gf_double,zae,zaU,zaI,zah (by omega) (by omega),zv2 hy,this]
      exact hh
  · have:n=255:=by omega
    subst this
    simp [logF]
theorem zCy {a:Int} (ha:Byt a):zcA [.int .u8 a]=some (.int .u8 (inv8 a)):=by
  obtain ⟨m,hm,rfl⟩:=zey ha
  rw [zwq]
  unfold ztx inv8 invN
  rw [Int.toNat_natCast]
  by_cases h0:m=0
  · subst h0; simp
  · obtain ⟨h1,h2⟩:=zDq m hm h0
    have hb:((m:Int) == 0)=false:=by simp; omega
    rw [hb,zas,zE2 hm,zae,zaU,if_neg (by omega),if_neg h0,zaI,zah (by omega) (by omega),show (255:Int) - (logN m:Int)=((255 - logN m:Nat):Int) by omega,zyu _ (by omega),zae,zaU,zk0]
section
variable {ps:List Part} (h1:0 < ps.length) (h8:ps.length≤8) (hs:∀ x∈ps,x.2.length=32)
include h1 h8 hs
theorem by_q (tq tg:Tag) {q:List Int} (hq:q.length=32) {k:Nat} (hk:k < 8):
    zcn [.sl tq (uL q),.sl tg (pL ps),.int .i64 k]=some (.sl .own (uL (byQ q (ps.map (·.2)) k))):=by
  rw [zrn,zds,zdX]
  have hm:(ps.map fun x=>(zcp x.1 x.2,x.2)).map (·.2)=ps.map (·.2):=by rw [List.map_map]; rfl
  have hlen:(ps.map fun x=>(zcp x.1 x.2,x.2)).length=ps.length:=by simp
  have hs':∀ x∈(ps.map fun x=>(zcp x.1 x.2,x.2)),x.2.length=32:=by intro x hx; obtain ⟨y,hy,rfl⟩:=List.mem_map.1 hx; exact hs y hy
  rw [←hm]
  rw [←hlen] at h1 h8
  generalize (ps.map fun x=>(zcp x.1 x.2,x.2))=rs at*
  unfold zmh
  have hQ:=zCw (n:=32) .lent (ps:=rs) (by omega) h1 (by omega) hs'
  have hr:Byt (inv8 (pow8 k)):=zxm _
  have ha:(addL q (sumQ 32 (rs.map (·.2)))).length < 100000:=by unfold addL; split<;>simp<;>omega
  simp (disch:=first | omega | assumption | (simp; done) | fail) [-List.all_eq_true,hQ,zhw _ _ _ _ (show q.length < 100000 by omega),zvq k (by omega),zCy (zxi k),ziz _ _ ha hr.1 hr.2]
  rfl
theorem zE3 (tp tq tg:Tag) {p q:List Int} (hp:p.length=32) (hq:q.length=32) {j k:Nat} (hj:j < 8) (hk:k < 8):
    zcF [.sl tp (uL p),.sl tq (uL q),.sl tg (pL ps),.int .i64 j,.int .i64 k]=some (.tup [.sl .own (uL (twoX p q (ps.map (·.2)) j k)),.sl .own (uL (twoY p q (ps.map (·.2)) j k))]):=by
  rw [zrl,zds,zds,zdX]
  have hm:(ps.map fun x=>(zcp x.1 x.2,x.2)).map (·.2)=ps.map (·.2):=by rw [List.map_map]; rfl
  have hlen:(ps.map fun x=>(zcp x.1 x.2,x.2)).length=ps.length:=by simp
  have hs':∀ x∈(ps.map fun x=>(zcp x.1 x.2,x.2)),x.2.length=32:=by intro x hx; obtain ⟨y,hy,rfl⟩:=List.mem_map.1 hx; exact hs y hy
  rw [←hm]
  rw [←hlen] at h1 h8
  generalize (ps.map fun x=>(zcp x.1 x.2,x.2))=rs at*
  unfold zmg
  have hQ:=zCw (n:=32) .lent (ps:=rs) (by omega) h1 (by omega) hs'
  have hP:=zCv (n:=32) .lent (ps:=rs) (by omega) h1 (by omega) hs'
  have hr:Byt (inv8 (xor8 (pow8 j) (pow8 k))):=zxm _
  have addl:∀ {a b:List Int},a.length≤32→(addL a b).length≤32:=by intro a b h; unfold addL; split<;>simp<;>omega
  have h2:(addL p (sumP 32 (rs.map (·.2)))).length≤32:=addl (by omega)
  have h3:(addL q (sumQ 32 (rs.map (·.2)))).length≤32:=addl (by omega)
  have h4:(addL (addL q (sumQ 32 (rs.map (·.2)))) ((addL p (sumP 32 (rs.map (·.2)))).map (mul8 · (pow8 k)))).length≤32:=addl h3
  simp (disch:=first | omega | assumption | (simp; done) | fail) [-List.all_eq_true,hQ,hP,zhw _ _ _ _ (show q.length < 100000 by omega),zhw _ _ _ _ (show p.length < 100000 by omega),zvq j (by omega),zvq k (by omega),zCy (zmY _ _),
    ziz _ _ (show (addL p (sumP 32 (rs.map (·.2)))).length < 100000 by omega) (zh7 k).1 (zh7 k).2,zhw _ _ _ _ (show (addL q (sumQ 32 (rs.map (·.2)))).length < 100000 by omega),zhw _ _ _ _ (show (addL p (sumP 32 (rs.map (·.2)))).length < 100000 by omega),
    ziz _ _ (show (addL (addL q (sumQ 32 (rs.map (·.2)))) ((addL p (sumP 32 (rs.map (·.2)))).map (mul8 · (pow8 k)))).length < 100000 by omega) hr.1 hr.2]
  exact ⟨rfl,rfl⟩
end
end Wf

namespace Wf
open Go Go.RowKit Go.Proofs
set_option linter.unusedSimpArgs false
set_option linter.unusedVariables false
set_option maxHeartbeats 4000000
def solD:Option (List (List Int))→D
  | none=>.tup [.sl .own [],.bool false]
  | some o=>.tup [.sl .own (pL (fP o)),.bool true]
theorem pLs (ls:List (List Int)) (i:Nat) (l:List Int):(pL (fP ls)).set i (.sl .fresh (uL l))=pL (fP (ls.set i l)):=by rw [zvp,zE1]
theorem ztL {ls:List (List Int)} {i:Nat} (h:i < ls.length):(pL (fP ls))[i]? =some (.sl .fresh (uL (ls.getD i []))):=by
  have e:ls[i]? =some (ls.getD i []):=by rw [List.getD_eq_getElem?_getD,List.getElem?_eq_getElem h]; rfl
  exact zdh (zvr e)
theorem zBT (tp tq tg:Tag) (p q:List Int) {ps:List Part} (hn:ps.length < 100000):
    zbX [.int .i64 32,.sl tp (uL p),.sl tq (uL q),.sl tg (pL ps)]=some (solD (zm1 p q (ps.map (·.2)))):=by
  rw [zo7,zds,zds,zdX]
  have hm:(ps.map fun x=>(zcp x.1 x.2,x.2)).map (·.2)=ps.map (·.2):=by rw [List.map_map]; rfl
  have hlen:(ps.map fun x=>(zcp x.1 x.2,x.2)).length=ps.length:=by simp
  rw [←hm]
  rw [←hlen] at hn
  generalize (ps.map fun x=>(zcp x.1 x.2,x.2))=rs at*
  clear hm hlen ps
  unfold ziY zm1
  have hmi:=znF .lent rs hn
  rw [zBS] at hmi
  have hpq:zbB [.sl .full [.sl .lent (uL p),.sl .lent (uL q)]]=some (.sl .own (intL ((zc7 [p,q]).map Int.ofNat))):=znF .full [(Tag.lent,p),(Tag.lent,q)] (by simp)
  have hfi:=erase_fits .lent rs hn 32
  have hfa:(rs.all fun x=>fitS 32 x.2)=(rs.map (·.2)).all (fitS 32):=by rw [List.all_map]; rfl
  rw [hfa] at hfi
  have hfpq:zb1 [.int .i64 32,.sl .full [.sl .lent (uL p),.sl .lent (uL q)]]=some (.bool ([p,q].all (fitS 32))):=erase_fits .full [(Tag.lent,p),(Tag.lent,q)] (by simp) 32
  have hfl:zbS [.int .i64 32,.sl .lent (pL rs)]=some (.sl .own (pL (fP (zct (rs.map (·.2)))))):=by
    have:=erase_filled 32 (by omega) .lent rs hn
    rw [zBR] at this
    exact this
  have hl:(rs.map (·.2)).length=rs.length:=by simp
  generalize hls:rs.map (·.2)=ls at*
  have hfill:(zct ls).length=rs.length:=by rw [zcM,hl]
  by_cases c1:rs.length < 1
  · rw [if_pos (.inl (by omega))]
    simp (disch:=first | omega | assumption | (simp; done) | fail) [-List.all_eq_true,hmi,c1,solD]
  by_cases c2:8 < rs.length
  · rw [if_pos (.inr (.inl (by omega)))]
    simp (disch:=first | omega | assumption | (simp; done) | fail) [-List.all_eq_true,hmi,c1,c2,solD]
  cases c3:ls.all (fitS 32)
  · rw [if_pos (.inr (.inr (.inl rfl)))]
    simp (disch:=first | omega | assumption | (simp; done) | fail) [-List.all_eq_true,hmi,c1,c2,hfi,c3,solD]
  cases c4:[p,q].all (fitS 32)
  · rw [if_pos (.inr (.inr (.inr rfl)))]
    simp (disch:=first | omega | assumption | (simp; done) | fail) [-List.all_eq_true,-List.all_cons,hmi,c1,c2,hfi,c3,hfpq,c4,solD]
  rw [if_neg (by rintro (e | e | e | e)<;>first | omega | cases e)]
  have hml:(zc7 ls).length≤8:=by
    have:(zc7 ls).length≤ls.length:=by unfold zc7; exact Nat.le_trans (List.length_filter_le _ _) (by simp)
    omega
  have hml2:=zwa p q
  have hml3:(zc7 [p,q]).length≤2:=by rw [hml2]; split<;>split<;>omega
  by_cases c5:2 < (zc7 ls).length+(zc7 [p,q]).length
  · rw [if_pos c5]
    simp (disch:=first | omega | assumption | (simp; done) | fail) [-List.all_eq_true,-List.all_cons,hmi,c1,c2,hfi,c3,hfpq,c4,hpq,zfF,zah,solD]
  rw [if_neg c5]
  rcases hmm:zc7 ls with _ | ⟨j,_ | ⟨k,_ | ⟨m,t⟩⟩⟩
  · rw [hmm] at c5 hmi
    simp (disch:=first | omega | assumption | (simp; done) | fail) [-List.all_eq_true,-List.all_cons,hmi,c1,c2,hfi,c3,hfpq,c4,hpq,zfF,zah,solD,hfl,zf4]
  · have hj:=zd7.1 (show j∈zc7 ls by rw [hmm]; simp)
    rw [hmm] at c5 hmi
    have hi1:intL [(j:Int)]=[.int .i64 j]:=rfl
    have c6:¬ 2 < 1+((zc7 [p,q]).length:Int):=by simp at c5; omega
    have hg:=ztL (ls:=zct ls) (i:=j) (by omega)
    dsimp only
    by_cases hp:0 < p.length
    · rw [if_pos hp]
      have hP:=zCv (n:=32) .lent (ps:=fP (zct ls)) (by omega) (by simp; omega) (by simp; omega) (by intro x hx; obtain ⟨l,hl,rfl⟩:=List.mem_map.1 hx; unfold zct at hl; obtain ⟨y,_,rfl⟩:=List.mem_map.1 hl; exact zh8 32 y)
      rw [zxz] at hP
      have hpl:p.length=32:=by
        simp [fitS] at c4
        rcases c4.1 with e | e
        · rw [e] at hp; cases hp
        · omega
      simp (disch:=first | omega | assumption | (simp; done) | fail) [-List.all_eq_true,-List.all_cons,hmi,c1,c2,hfi,c3,hfpq,c4,hpq,zfF,hi1,zah,solD,hfl,hP,hp,zhw,zaB hg,pLs,zf4,hfill,c6,D.isAgg]
    · rw [if_neg hp]
      have hq:q.length=32:=by
        have hp0:p=[]:=by cases p; rfl; simp at hp
        have hq0:¬ q=[]:=by intro e; rw [hml2,if_pos hp0,if_pos e] at c5; simp at c5
        simp [fitS] at c4
        rcases c4.2 with e | e
        · exact absurd e hq0
        · omega
      have hQ:=by_q (ps:=fP (zct ls)) (by simp; omega) (by simp; omega) (by intro x hx; obtain ⟨l,hl,rfl⟩:=List.mem_map.1 hx; unfold zct at hl; obtain ⟨y,_,rfl⟩:=List.mem_map.1 hl; exact zh8 32 y) .lent .lent hq (k:=j) (by omega)
      rw [zxz] at hQ
      simp (disch:=first | omega | assumption | (simp; done) | fail) [-List.all_eq_true,-List.all_cons,hmi,c1,c2,hfi,c3,hfpq,c4,hpq,zfF,hi1,zah,solD,hfl,hQ,hp,zaB hg,pLs,zf4,hfill,c6,D.isAgg]
  · have hj:=zd7.1 (show j∈zc7 ls by rw [hmm]; simp)
    have hk:=zd7.1 (show k∈zc7 ls by rw [hmm]; simp)
    have hjk:j < k:=by have:=zl0 ls; rw [hmm] at this; simpa using this
    rw [hmm] at c5 hmi
    have hi1:intL [(j:Int),(k:Int)]=[.int .i64 j,.int .i64 k]:=rfl
    have c6:¬ 2 < 2+((zc7 [p,q]).length:Int):=by simp at c5; simp [c5]
    have hp0:¬ p=[]:=by intro e; rw [hml2,if_pos e] at c5; simp at c5
    have hq0:¬ q=[]:=by intro e; rw [hml2,if_pos e] at c5; simp at c5
    have hpl:p.length=32∧q.length=32:=by
      simp [fitS] at c4
      exact ⟨by rcases c4.1 with e | e; exact absurd e hp0; omega,by rcases c4.2 with e | e; exact absurd e hq0; omega⟩
    have hT:=zE3 (ps:=fP (zct ls)) (by simp; omega) (by simp; omega) (by intro x hx; obtain ⟨l,hl,rfl⟩:=List.mem_map.1 hx; unfold zct at hl; obtain ⟨y,_,rfl⟩:=List.mem_map.1 hl; exact zh8 32 y) .lent .lent .lent hpl.1 hpl.2 (j:=j) (k:=k) (by omega) (by omega)
    rw [zxz] at hT
    have hg:=ztL (ls:=zct ls) (i:=j) (by omega)
    have hg2:=ztL (ls:=(zct ls).set j (twoX p q (zct ls) j k)) (i:=k) (by simp; omega)
    dsimp only
    simp (disch:=first | omega | assumption | (simp; done) | fail) [-List.all_eq_true,-List.all_cons,hmi,c1,c2,hfi,c3,hfpq,c4,hpq,zfF,hi1,zah,solD,hfl,hT,zaB hg,zaB hg2,pLs,zf4,hfill,c6,D.isAgg]
  · rw [hmm] at c5; simp at c5; omega
end Wf

namespace Wf
open Go Go.RowKit Go.Proofs
set_option linter.unusedSimpArgs false
set_option linter.unusedVariables false
def zoq (b:Int) (k:Nat) (s:Int×Int):Int×Int:=
  (if IntKind.i64.wrap (s.1*2) > 255 then bits .xor .i64 (IntKind.i64.wrap (s.1*2)) 285 else IntKind.i64.wrap (s.1*2),
   if bits .and .u8 (b.fdiv (2 ^ min k 8)) 1=1 then bits .xor .i64 s.2 s.1 else s.2)
def zem (a b:Int):Nat→Int×Int
  | 0=>(IntKind.i64.wrap a,0)
  | k+1=>zoq b k (zem a b k)
def zeO (a b:Int):Int:=IntKind.u8.wrap (zem a b 8).2
theorem zAp (a b:Int):zaN [.int .u8 a,.int .u8 b]=some (.int .u8 (zeO a b)):=by
  rw [zlp]
  unfold zfA
  rw [zaI]
  refine zb2 (fun k=>((b,(zem a b k).1,(zem a b k).2,(k:Int),PUnit.unit),PUnit.unit)) 8 (by omega) ?_ ?_
  · intro again k hk
    dsimp only
    have hd:decide ((k:Int) < 8)=true:=by simp; omega
    rw [hd,zaY,zaI,zBg (by omega) (by omega),zab (by omega),zaI,zaI,Int.toNat_natCast]
    have hs:zem a b (k+1)=zoq b k (zem a b k):=rfl
    have hk1:IntKind.i64.wrap ((k:Int)+1)=((k+1:Nat):Int):=by rw [zah (by omega) (by omega)]; rfl
    rw [hs]
    unfold zoq
    by_cases hb:bits .and .u8 (b.fdiv (2 ^ min k 8)) 1=1
    · have hb':(bits .and .u8 (b.fdiv (2 ^ min k 8)) 1 == 1)=true:=by simp [hb]
      rw [hb',zaY,zaI,zaI,if_pos hb]
      by_cases hx:IntKind.i64.wrap ((zem a b k).1*2) > 255
      · have hx':decide (IntKind.i64.wrap ((zem a b k).1*2) > 255)=true:=by simp [hx]
        rw [hx',zaY,zaI,zaI,hk1,if_pos hx]
      · have hx':decide (IntKind.i64.wrap ((zem a b k).1*2) > 255)=false:=by simp; omega
        rw [hx',zas,zaI,hk1,if_neg hx]
    · have hb':(bits .and .u8 (b.fdiv (2 ^ min k 8)) 1 == 1)=false:=by simp [hb]
      rw [hb',zas,zaI,if_neg hb]
      by_cases hx:IntKind.i64.wrap ((zem a b k).1*2) > 255
      · have hx':decide (IntKind.i64.wrap ((zem a b k).1*2) > 255)=true:=by simp [hx]
        rw [hx',zaY,zaI,zaI,hk1,if_pos hx]
      · have hx':decide (IntKind.i64.wrap ((zem a b k).1*2) > 255)=false:=by simp; omega
        rw [hx',zas,zaI,hk1,if_neg hx]
  · intro again
    dsimp only
    have hd:decide (((8:Nat):Int) < 8)=false:=by simp
    rw [hd,zas,zaI]
    rfl
def zdY:Nat→Int
  | 0=>1
  | k+1=>zeO (zdY k) 2
theorem zDE (k:Nat) (hk:k < 255):zbA [.int .i64 k]=some (.int .u8 (zdY k)):=by
  rw [zlr]
  unfold zfB
  have e1:Int.tmod (k:Int) 255=k:=by rw [Int.tmod_eq_emod_of_nonneg (by omega),Int.emod_eq_of_lt (by omega) (by omega)]
  have hd:decide ((k:Int) < 0)=false:=by simp
  rw [zaI,e1,hd,zas]
  let st:Nat→(Int×Int×PUnit)×PUnit:=fun j=>(((k:Int) - (j:Int),zdY j,PUnit.unit),PUnit.unit)
  have hst:st 0=(((k:Int),1,PUnit.unit),PUnit.unit):=by simp [st,zdY]
  rw [←hst]
  refine zb2 st k (by omega) ?_ ?_
  · intro again j hj
    dsimp only [st]
    have hd:decide ((k:Int) - (j:Int) > 0)=true:=by simp; omega
    rw [hd,zaY,zAp,zae,zaU,zaI,zah (by omega) (by omega)]
    have:(k:Int) - (j:Int) - 1=(k:Int) - ((j+1:Nat):Int):=by omega
    rw [this]
    rfl
  · intro again
    dsimp only [st]
    have hd:decide ((k:Int) - (k:Int) > 0)=false:=by simp
    rw [hd,zas]
def mixL (f:Int→Int→Int) (acc p:List Int) (j:Nat):List Int:=(List.zipWith f acc p).take j++acc.drop j
theorem zxA {f:Int→Int→Int} {acc p:List Int} (h:p.length=acc.length) {j:Nat} (hj:j≤acc.length):(mixL f acc p j).length=acc.length:=by
  unfold mixL; simp [h]; omega
theorem zxB {f:Int→Int→Int} {acc p:List Int} (h:p.length=acc.length) {j:Nat} (hj:j < acc.length):(mixL f acc p j)[j]? =some acc[j]:=by
  unfold mixL
  rw [List.getElem?_append_right (by simp; omega)]
  simp [h]
  rw [show j - min j acc.length=0 by omega]
  simp [hj]
theorem zxC {f:Int→Int→Int} {acc p:List Int} (h:p.length=acc.length) {j:Nat} (hj:j < acc.length):(mixL f acc p j).set j (f acc[j] (p[j]'(by omega)))=mixL f acc p (j+1):=by
  unfold mixL
  have hl:((List.zipWith f acc p).take j).length=j:=by simp [h]; omega
  rw [List.set_append_right _ _ (by omega),hl,Nat.sub_self,List.take_add_one,List.drop_eq_getElem_cons hj,List.set_cons_zero]
  simp [List.getElem?_zipWith,hj,h]
theorem zxD {f:Int→Int→Int} {acc p:List Int} (h:p.length=acc.length):mixL f acc p acc.length=List.zipWith f acc p:=by
  unfold mixL
  rw [List.drop_of_length_le (Nat.le_refl _),List.append_nil,List.take_of_length_le (by simp; omega)]
theorem zvs (f:Int→Int→Int) (acc p:List Int):mixL f acc p 0=acc:=by simp [mixL]
def sumR (F:Nat→Int→Int) (n:Nat) (ls:List (List Int)):Nat→List Int
  | 0=>List.replicate n 0
  | k+1=>List.zipWith (fun a x=>xor8 a (F k x)) (sumR F n ls k) (ls.getD k [])
theorem ztM {F:Nat→Int→Int} {n:Nat} {ls:List (List Int)} (h:∀ l∈ls,l.length=n):∀ {k:Nat},k≤ls.length→(sumR F n ls k).length=n
  | 0,_=>by simp [sumR]
  | k+1,hk=>by
    have e:ls.getD k []=ls[k]:=by simp [List.getD_eq_getElem?_getD,List.getElem?_eq_getElem (show k < ls.length by omega)]
    simp only [sumR,List.length_zipWith,e,ztM h (show k≤ls.length by omega),h _ (List.getElem_mem (show k < ls.length by omega))]
    omega
def refP (n:Nat) (ls:List (List Int)):List Int:=sumR (fun _ x=>x) n ls ls.length
def refQ (n:Nat) (ls:List (List Int)):List Int:=sumR (fun k x=>zeO x (zdY k)) n ls ls.length
theorem zvt (tg:Tag) {ps:List Part} {n:Nat} (h0:0 < ps.length) (h1:ps.length < 100000) (h:∀ x∈ps,x.2.length=n):zaD [.sl tg (pL ps)]=some (.bool true):=by
  rw [zjz,zdX]
  have hlen:(ps.map fun x=>(zcp x.1 x.2,x.2)).length=ps.length:=by simp
  have hl':∀ x∈(ps.map fun x=>(zcp x.1 x.2,x.2)),x.2.length=n:=by intro x hx; obtain ⟨y,hy,rfl⟩:=List.mem_map.1 hx; exact h y hy
  rw [←hlen] at h0 h1
  generalize (ps.map fun x=>(zcp x.1 x.2,x.2))=rs at*
  unfold zeE
  obtain ⟨x0,hx0⟩:∃ x,rs[0]? =some x:=⟨_,List.getElem?_eq_getElem h0⟩
  refine zb2 (fun k=>((pL rs,pL rs,((pL rs).length:Int),(k:Int),PUnit.unit),PUnit.unit)) rs.length h1 ?_ ?_
  · intro again k hk
    dsimp only
    obtain ⟨x,hx⟩:∃ x,rs[k]? =some x:=⟨_,List.getElem?_eq_getElem hk⟩
    have hd:decide ((k:Int) < ((pL rs).length:Int))=true:=by simp; omega
    have hb:(((uL x.2).length:Int) != ((uL x0.2).length:Int))=false:=by simp [hl' x (List.mem_of_getElem? hx),hl' x0 (List.mem_of_getElem? hx0)]
    rw [hd,zaY,zab (by omega),zaB (by simpa using zdh hx),zex,zaB (zdh hx0),zex,hb,zas,zaI,zah (by omega) (by omega)]
    rfl
  · intro again
    have hd:decide ((rs.length:Int) < ((pL rs).length:Int))=false:=by simp
    have hd2:decide (((pL rs).length:Int) > 0)=true:=by simp; omega
    dsimp only
    rw [hd,zas,hd2]
theorem zFR (tg:Tag) {ps:List Part} {n:Nat} (hn:n < 100000) (h0:0 < ps.length) (h1:ps.length < 100000) (h:∀ x∈ps,x.2.length=n):zbO [.sl tg (pL ps)]=some (.sl .own (uL (refP n (ps.map (·.2))))):=by
  rw [znq,zdX]
  have hlen:(ps.map fun x=>(zcp x.1 x.2,x.2)).length=ps.length:=by simp
  have hm:(ps.map fun x=>(zcp x.1 x.2,x.2)).map (·.2)=ps.map (·.2):=by rw [List.map_map]; rfl
  have hl':∀ x∈(ps.map fun x=>(zcp x.1 x.2,x.2)),x.2.length=n:=by intro x hx; obtain ⟨y,hy,rfl⟩:=List.mem_map.1 hx; exact h y hy
  rw [←hlen] at h0 h1
  rw [←hm]
  generalize (ps.map fun x=>(zcp x.1 x.2,x.2))=rs at*
  clear hm hlen h ps
  unfold zg0
  obtain ⟨x0,hx0⟩:∃ x,rs[0]? =some x:=⟨_,List.getElem?_eq_getElem h0⟩
  have hls:∀ l∈rs.map (·.2),l.length=n:=by intro l hl; obtain ⟨y,hy,rfl⟩:=List.mem_map.1 hl; exact hl' y hy
  rw [zvt .lent h0 h1 hl',zae,zcQ,Bool.not_true,zas,zaB (zdh hx0),zex,zab (by rfl),zd8,hl' x0 (List.mem_of_getElem? hx0),zab (by omega),zab (by omega),zab (by simp),Int.toNat_natCast,zqn]
  let st:Nat→(List D×List D×Int×Int×PUnit)×PUnit:=fun k=>((uL (sumR (fun _ x=>x) n (rs.map (·.2)) k),pL rs,((pL rs).length:Int),(k:Int),PUnit.unit),PUnit.unit)
  have hst:st 0=((uL (List.replicate n 0),pL rs,((pL rs).length:Int),0,PUnit.unit),PUnit.unit):=rfl
  rw [←hst]
  refine zb2 st rs.length h1 ?_ ?_
  · intro again k hk
    dsimp only [st]
    obtain ⟨x,hx⟩:∃ x,rs[k]? =some x:=⟨_,List.getElem?_eq_getElem hk⟩
    have hxl:=hl' x (List.mem_of_getElem? hx)
    have hd:decide ((k:Int) < ((pL rs).length:Int))=true:=by simp; omega
    have hsl:=ztM (F:=fun _ x=>x) hls (k:=k) (by simp; omega)
    have hxe:x.2.length=(sumR (fun _ x=>x) n (rs.map (·.2)) k).length:=by omega
    rw [hd,zaY,zab (by omega),zaB (by simpa using zdh hx),zex,zab (by rfl)]
    let s2:Nat→(List D×List D×Int×Int×(Tag×List D)×Int×Int×PUnit)×PUnit:=fun j=>((uL (mixL (fun a x=>xor8 a x) (sumR (fun _ x=>x) n (rs.map (·.2)) k) x.2 j),pL rs,((pL rs).length:Int),(k:Int),(x.1,uL x.2),((uL x.2).length:Int),(j:Int),PUnit.unit),PUnit.unit)
    have hs2:s2 0=((uL (sumR (fun _ x=>x) n (rs.map (·.2)) k),pL rs,((pL rs).length:Int),(k:Int),(x.1,uL x.2),((uL x.2).length:Int),0,PUnit.unit),PUnit.unit):=by simp only [s2,zvs]; rfl
    rw [←hs2]
    refine zb2 s2 x.2.length (by omega) ?_ ?_
    · intro again2 j hj
      dsimp only [s2]
      have hd:decide ((j:Int) < ((uL x.2).length:Int))=true:=by simp; omega
      have g1:x.2[j]? =some x.2[j]:=List.getElem?_eq_getElem hj
      have g2:=zxB (f:=fun a x=>xor8 a x) hxe (j:=j) (by omega)
      have ml:=zxA (f:=fun a x=>xor8 a x) hxe (j:=j) (by omega)
      have ms:=zxC (f:=fun a x=>xor8 a x) hxe (j:=j) (by omega)
      rw [hd,zaY,zab (by omega),zaB (by simpa using zje g1),zaU,zab (by omega),zab (by rw [zd8,ml]; omega),zaB (by simpa using zje g2),zaU,zaI,zab (by omega),zab (by rw [zd8,ml]; omega),zaB (by simpa using zje g2),zab (by rfl),zaI,
        zah (by omega) (by omega),zab (by simp),Nat.zero_add,zzW,show Int.toNat (j:Int)=j from rfl,ms]
      rfl
    · intro again2
      dsimp only [s2]
      have hd:decide ((x.2.length:Int) < ((uL x.2).length:Int))=false:=by simp
      have me:mixL (fun a x=>xor8 a x) (sumR (fun _ x=>x) n (rs.map (·.2)) k) x.2 x.2.length=sumR (fun _ x=>x) n (rs.map (·.2)) (k+1):=by
        rw [hxe,zxD hxe]
        have:(rs.map (·.2)).getD k []=x.2:=by simp [List.getD_eq_getElem?_getD,hx]
        simp only [sumR,this]
      rw [hd,zas,zaI,zah (by omega) (by omega),zab (by rfl),me]
      rfl
  · intro again
    dsimp only [st]
    have hd:decide ((rs.length:Int) < ((pL rs).length:Int))=false:=by simp
    rw [hd,zas,zab (by rfl),zab (zgN _)]
    simp [refP]
theorem zFS (tg:Tag) {ps:List Part} {n:Nat} (hn:n < 100000) (h0:0 < ps.length) (h1:ps.length < 255) (h:∀ x∈ps,x.2.length=n):zbP [.sl tg (pL ps)]=some (.sl .own (uL (refQ n (ps.map (·.2))))):=by
  rw [zns,zdX]
  have hlen:(ps.map fun x=>(zcp x.1 x.2,x.2)).length=ps.length:=by simp
  have hm:(ps.map fun x=>(zcp x.1 x.2,x.2)).map (·.2)=ps.map (·.2):=by rw [List.map_map]; rfl
  have hl':∀ x∈(ps.map fun x=>(zcp x.1 x.2,x.2)),x.2.length=n:=by intro x hx; obtain ⟨y,hy,rfl⟩:=List.mem_map.1 hx; exact h y hy
  rw [←hlen] at h0 h1
  rw [←hm]
  generalize (ps.map fun x=>(zcp x.1 x.2,x.2))=rs at*
  clear hm hlen h ps
  unfold zg3
  obtain ⟨x0,hx0⟩:∃ x,rs[0]? =some x:=⟨_,List.getElem?_eq_getElem h0⟩
  have hls:∀ l∈rs.map (·.2),l.length=n:=by intro l hl; obtain ⟨y,hy,rfl⟩:=List.mem_map.1 hl; exact hl' y hy
  rw [zvt .lent h0 (by omega) hl',zae,zcQ,Bool.not_true,zas,zaB (zdh hx0),zex,zab (by rfl),zd8,hl' x0 (List.mem_of_getElem? hx0),zab (by omega),zab (by omega),zab (by simp),Int.toNat_natCast,zqn]
  let st:Nat→(List D×List D×Int×Int×PUnit)×PUnit:=fun k=>((uL (sumR (fun k x=>zeO x (zdY k)) n (rs.map (·.2)) k),pL rs,((pL rs).length:Int),(k:Int),PUnit.unit),PUnit.unit)
  have hst:st 0=((uL (List.replicate n 0),pL rs,((pL rs).length:Int),0,PUnit.unit),PUnit.unit):=rfl
  rw [←hst]
  refine zb2 st rs.length (by omega) ?_ ?_
  · intro again k hk
    dsimp only [st]
    obtain ⟨x,hx⟩:∃ x,rs[k]? =some x:=⟨_,List.getElem?_eq_getElem hk⟩
    have hxl:=hl' x (List.mem_of_getElem? hx)
    have hd:decide ((k:Int) < ((pL rs).length:Int))=true:=by simp; omega
    have hsl:=ztM (F:=fun k x=>zeO x (zdY k)) hls (k:=k) (by simp; omega)
    have hxe:x.2.length=(sumR (fun k x=>zeO x (zdY k)) n (rs.map (·.2)) k).length:=by omega
    rw [hd,zaY,zab (by omega),zaB (by simpa using zdh hx),zex,zDE k (by omega),zae,zaU,zab (by rfl)]
    let s2:Nat→(List D×Int×List D×Int×Int×(Tag×List D)×Int×Int×PUnit)×PUnit:=fun j=>((uL (mixL (fun a x=>xor8 a (zeO x (zdY k))) (sumR (fun k x=>zeO x (zdY k)) n (rs.map (·.2)) k) x.2 j),zdY k,pL rs,((pL rs).length:Int),(k:Int),(x.1,uL x.2),((uL x.2).length:Int),(j:Int),PUnit.unit),PUnit.unit)
    have hs2:s2 0=((uL (sumR (fun k x=>zeO x (zdY k)) n (rs.map (·.2)) k),zdY k,pL rs,((pL rs).length:Int),(k:Int),(x.1,uL x.2),((uL x.2).length:Int),0,PUnit.unit),PUnit.unit):=by simp only [s2,zvs]; rfl
    rw [←hs2]
    refine zb2 s2 x.2.length (by omega) ?_ ?_
    · intro again2 j hj
      dsimp only [s2]
      have hd:decide ((j:Int) < ((uL x.2).length:Int))=true:=by simp; omega
      have g1:x.2[j]? =some x.2[j]:=List.getElem?_eq_getElem hj
      have g2:=zxB (f:=fun a x=>xor8 a (zeO x (zdY k))) hxe (j:=j) (by omega)
      have ml:=zxA (f:=fun a x=>xor8 a (zeO x (zdY k))) hxe (j:=j) (by omega)
      have ms:=zxC (f:=fun a x=>xor8 a (zeO x (zdY k))) hxe (j:=j) (by omega)
      rw [hd,zaY,zab (by omega),zaB (by simpa using zje g1),zaU,zab (by omega),zab (by rw [zd8,ml]; omega),zaB (by simpa using zje g2),zaU,zAp,zae,zaU,zaI,zab (by omega),zab (by rw [zd8,ml]; omega),zaB (by simpa using zje g2),zab (by rfl),zaI,
        zah (by omega) (by omega),zab (by simp),Nat.zero_add,zzW,show Int.toNat (j:Int)=j from rfl,ms]
      rfl
    · intro again2
      dsimp only [s2]
      have hd:decide ((x.2.length:Int) < ((uL x.2).length:Int))=false:=by simp
      have me:mixL (fun a x=>xor8 a (zeO x (zdY k))) (sumR (fun k x=>zeO x (zdY k)) n (rs.map (·.2)) k) x.2 x.2.length=sumR (fun k x=>zeO x (zdY k)) n (rs.map (·.2)) (k+1):=by
        rw [hxe,zxD hxe]
        have:(rs.map (·.2)).getD k []=x.2:=by simp [List.getD_eq_getElem?_getD,hx]
        simp only [sumR,this]
      rw [hd,zas,zaI,zah (by omega) (by omega),zab (by rfl),me]
      rfl
  · intro again
    dsimp only [st]
    have hd:decide ((rs.length:Int) < ((pL rs).length:Int))=false:=by simp
    rw [hd,zas,zab (by rfl),zab (zgN _)]
    simp [refQ]
def zlL (n:Int) (i:Nat):Int:=IntKind.u8.wrap (IntKind.i64.wrap (n+IntKind.i64.wrap ((i:Int)*bits .or .i64 (IntKind.i64.wrap (n.tdiv 7)) 1)))
def secN (n:Int):List Int:=if n % 11=10 then List.replicate 32 0 else (List.range 32).map (zlL n)
theorem zBU (n:Int):Sec (secN n):=by
  unfold secN
  split
  · exact zuR
  · refine ⟨by simp,fun x h=>?_⟩
    obtain ⟨i,_,rfl⟩:=List.mem_map.1 h
    exact zqi _
theorem zqX (n:Int):za5 [.int .i64 n]=some (.sl .own (uL (secN n))):=by
  rw [zjw]
  unfold zeD
  rw [ztJ n 11 (by omega) (by omega),zae,zaU]
  unfold secN
  by_cases h:n % 11=10
  · rw [if_pos h]; simp [h]; rfl
  · rw [if_neg h]
    have hb:(n % 11 == 10)=false:=by simp [h]
    rw [hb,zas]
    have:=zb2 (R:=D) (α:=(Int×List D×Int×Int×PUnit)×PUnit)
      (fun k=>((n,uL ((List.range 32).map fun i=>if i < k then zlL n i else 0),32,(k:Int),PUnit.unit),PUnit.unit)) 32 (by omega)
      (B:=?B) (r:=some (.sl .own (uL ((List.range 32).map (zlL n))))) ?_ ?_
    · exact this
    · intro again k hk
      dsimp only
      have hd:decide ((k:Int) < 32)=true:=by simp; omega
      have hg:((List.range 32).map fun i=>if i < k then zlL n i else 0)[k]? =some 0:=by simp [hk]
      have hv:zlL n k=IntKind.u8.wrap (IntKind.i64.wrap (n+IntKind.i64.wrap ((k:Int)*bits .or .i64 (IntKind.i64.wrap (n.tdiv 7)) 1))):=rfl
      rw [hd,zaY,zaI,zaI,zaI,zaI,zaI,←hv,zab (by omega),zab (by simp; omega),zaB (by simpa using zje hg)]
      rw [zab (by rfl),zaI,zah (n:=(k:Int)+1) (by omega) (by omega),zab (by simp)]
      have:(uL ((List.range 32).map fun i=>if i < k then zlL n i else 0)).set (0+Int.toNat (k:Int)) (.int .u8 (zlL n k))=uL ((List.range 32).map fun i=>if i < k+1 then zlL n i else 0):=by
        rw [zzW]
        congr 1
        apply List.ext_getElem?
        intro j
        rw [List.getElem?_set]
        by_cases hj:j < 32
        · by_cases hjk:k=j
          · subst hjk; simp [hj]
          · have:(0+Int.toNat (k:Int))≠j:=by simp; exact hjk
            rw [if_neg this]
            simp [hj]
            by_cases h1:j < k
            · rw [if_pos h1,if_pos (by omega)]
            · rw [if_neg h1,if_neg (by omega)]
        · simp [hj]
          omega
      rw [this]
      rfl
    · intro again
      have e:((List.range 32).map fun i=>if i < 32 then zlL n i else 0)=(List.range 32).map (zlL n):=by
        apply List.map_congr_left; intro i hi; rw [if_pos (List.mem_range.1 hi)]
      dsimp only
      rw [e]
      simp
def secL (l:List Int) (n:Nat):List (List Int):=(List.range n).map fun (i:Nat)=>secN (l.getD i (3*(i:Int)))
theorem zxE (l:List Int) (n:Nat):∀ x∈secL l n,Sec x:=by
  intro x hx; obtain ⟨i,_,rfl⟩:=List.mem_map.1 hx; exact zBU _
@[simp] theorem zFr (l:List Int) (n:Nat):(secL l n).length=n:=by simp [secL]
theorem zDF (ls:List (List Int)) (l:List Int):pL (fP ls)++[.sl .fresh (uL l)]=pL (fP (ls++[l])):=by simp [pL,fP]
theorem zoS (tg:Tag) (l:List Int) {n:Nat} (hn:n < 100000):zaA [.sl tg (intL l),.int .i64 n]=some (.sl .own (pL (fP (secL l n)))):=by
  rw [zi1,zmV]
  unfold zeh
  let st:Nat→(List D×Int×List D×Int×PUnit)×PUnit:=fun k=>((intL l,(n:Int),pL (fP (secL l k)),(k:Int),PUnit.unit),PUnit.unit)
  show zb4 _ (st 0)=_
  refine zb2 st n hn ?_ ?_
  · intro again k hk
    dsimp only [st]
    have hd:decide ((k:Int) < (n:Int))=true:=by simp; omega
    have hs:secL l (k+1)=secL l k++[secN (l.getD k (3*(k:Int)))]:=by unfold secL; rw [List.range_succ,List.map_append]; rfl
    rw [hd,zaY,zaI,zfF,hs,←zDF]
    by_cases hkl:k < l.length
    · have hd2:decide ((k:Int) < (l.length:Int))=true:=by simp; omega
      have hg:l.getD k (3*(k:Int))=l[k]:=by simp [List.getD_eq_getElem?_getD,hkl]
      rw [hd2,zaY,zab (by omega),zaB (by simpa using zBe hkl),zaU,zqX,zae,zbL,zab (by omega),zab (by simp; omega),zab (by rfl),zaI,zah (n:=(k:Int)+1) (by omega) (by omega),zdc,zab (by simp),hg]
      rfl
    · have hd2:decide ((k:Int) < (l.length:Int))=false:=by simp; omega
      have hg:l.getD k (3*(k:Int))=3*(k:Int):=by simp [List.getD_eq_getElem?_getD,List.getElem?_eq_none (show l.length≤k by omega)]
      rw [hd2,zas,zah (n:=3*(k:Int)) (by omega) (by omega),zqX,zae,zbL,zab (by omega),zab (by simp; omega),zab (by rfl),zaI,zah (n:=(k:Int)+1) (by omega) (by omega),zdc,zab (by simp),hg]
      rfl
  · intro again
    dsimp only [st]
    have hd:decide ((n:Int) < (n:Int))=false:=by simp
    rw [hd,zas,zab (by rfl),zab (zf4 _)]
def zk5 (b:Nat) (k:Nat) (s:Nat×Nat):Nat×Nat:=
  (if 255 < s.1*2 then (s.1*2) ^^^ 285 else s.1*2,if b / 2 ^ k % 2=1 then s.2 ^^^ s.1 else s.2)
def zcC (a b:Nat):Nat→Nat×Nat
  | 0=>(a,0)
  | k+1=>zk5 b k (zcC a b k)
theorem zDG {m n k:Nat} (hm:m < 2 ^ k) (hn:n < 2 ^ k):m ^^^ n < 2 ^ k:=Nat.xor_lt_two_pow hm hn
theorem zE4 (m n:Nat) (hm:m < 1024) (hn:n < 1024):bits .xor .i64 (m:Int) (n:Int)=((m ^^^ n:Nat):Int):=by
  have h:m ^^^ n < 2 ^ 10:=zDG (by omega) (by omega)
  have e:((BitVec.ofInt 64 (m:Int)) ^^^ (BitVec.ofInt 64 (n:Int))).toNat=m ^^^ n:=by
    rw [BitVec.toNat_xor]
    simp [Nat.mod_eq_of_lt (show m < 18446744073709551616 by omega),Nat.mod_eq_of_lt (show n < 18446744073709551616 by omega)]
  show IntKind.i64.wrap (((BitVec.ofInt 64 (m:Int)) ^^^ (BitVec.ofInt 64 (n:Int))).toNat:Int)=_
  rw [e]
  exact zah (by omega) (by omega)
theorem zqY {a b:Nat} (ha:a < 256) (hb:b < 256):∀ k,k≤8→(zem a b k).1=((zcC a b k).1:Int)∧(zem a b k).2=((zcC a b k).2:Int)∧(zcC a b k).1 < 256∧(zcC a b k).2 < 256
  | 0,_=>⟨zah (by omega) (by omega),rfl,ha,by show 0 < 256; omega⟩
  | k+1,hk=>by
    obtain ⟨h1,h2,h3,h4⟩:=zqY ha hb k (by omega)
    have w:IntKind.i64.wrap (((zcC a b k).1:Int)*2)=(((zcC a b k).1*2:Nat):Int):=by rw [zah (by omega) (by omega)]; omega
    have hx:(zcC a b k).2 ^^^ (zcC a b k).1 < 256:=zmX h4 h3
    have hbk:bits .and .u8 ((b:Int).fdiv (2 ^ min k 8)) 1=((b / 2 ^ k % 2:Nat):Int):=by
      have e:((b:Int).fdiv (2 ^ min k 8))=((b / 2 ^ k:Nat):Int):=by
        rw [show min k 8=k by omega,Int.fdiv_eq_ediv_of_nonneg _ (by exact_mod_cast Nat.zero_le (2 ^ k))]
        simp
      rw [e]
      exact and1 _ (Nat.lt_of_le_of_lt (Nat.div_le_self _ _) hb)
    have hd:∀ x < 256,255 < x*2→(x*2) ^^^ 285 < 256:=by decide+kernel
    show (zoq b k (zem a b k)).1=((zk5 b k (zcC a b k)).1:Int)∧(zoq b k (zem a b k)).2=((zk5 b k (zcC a b k)).2:Int)∧(zk5 b k (zcC a b k)).1 < 256∧(zk5 b k (zcC a b k)).2 < 256
    unfold zoq zk5
    rw [h1,h2,hbk,w,zE4 _ _ (by omega) (by omega)]
    have hx2:=zE4 ((zcC a b k).1*2) 285 (by omega) (by omega)
    refine ⟨?_,?_,?_,?_⟩
    · dsimp only
      split
      · rw [if_pos (by omega)]; exact hx2
      · rw [if_neg (by omega)]
    · dsimp only
      split
      · rw [if_pos (by omega)]
      · rw [if_neg (by omega)]
    · dsimp only
      split
      · exact hd _ h3 (by assumption)
      · omega
    · dsimp only
      split
      · exact hx
      · exact h4
theorem zsq {a b:Nat} (ha:a < 256) (hb:b < 256):zeO a b=((zcC a b 8).2:Int)∧(zcC a b 8).2 < 256:=by
  obtain ⟨_,h2,_,h4⟩:=zqY ha hb 8 (Nat.le_refl _)
  unfold zeO
  rw [h2]
  exact ⟨zv1 (by omega) (by omega),h4⟩
def zor:Nat→Nat
  | 0=>1
  | k+1=>(zcC (zor k) 2 8).2
theorem zsr:∀ k,zdY k=(zor k:Int)∧zor k < 256
  | 0=>⟨rfl,by decide⟩
  | k+1=>by
    obtain ⟨h1,h2⟩:=zsr k
    show zeO (zdY k) 2=((zcC (zor k) 2 8).2:Int)∧(zcC (zor k) 2 8).2 < 256
    have:=zsq h2 (show 2 < 256 by omega)
    rw [show ((2:Nat):Int)=2 from rfl] at this
    rw [h1]; exact this
theorem zvu:∀ k < 7,∀ x < 256,(zcC x (zor k) 8).2=mN x (powN k):=by decide+kernel
theorem zwz {x:Int} (h:Byt x) {k:Nat} (hk:k < 7):zeO x (zdY k)=mul8 x (pow8 k):=by
  obtain ⟨m,hm,rfl⟩:=zey h
  obtain ⟨h1,h2⟩:=zsr k
  have e1:=(zsq hm h2).1
  have e2:=(zd6 hm (zhB k)).1
  have e3:=zvu k hk m hm
  rw [h1,zk0,e1,e2,e3]
theorem zAq {F:Nat→Int→Int} {f:Nat→Int} {ls:List (List Int)} (h:∀ l∈ls,Sec l) (hF:∀ k x,k < ls.length→Byt x→F k x=mul8 x (f k)):∀ {k:Nat},k≤ls.length→sumR F 32 ls k=sumK f 32 ls k
  | 0,_=>rfl
  | k+1,hk=>by
    have hs:=h _ (zda (show k < ls.length by omega))
    show List.zipWith (fun a x=>xor8 a (F k x)) (sumR F 32 ls k) (ls.getD k [])=List.zipWith xor8 (sumK f 32 ls k) ((ls.getD k []).map (mul8 · (f k)))
    rw [zAq h hF (by omega),List.zipWith_map_right]
    apply List.ext_getElem?
    intro i
    rw [List.getElem?_zipWith,List.getElem?_zipWith]
    cases e1:(sumK f 32 ls k)[i]? with
    | none=>rfl
    | some a=>
      cases e2:(ls.getD k [])[i]? with
      | none=>rfl
      | some x=>simp only; rw [hF k x (by omega) (hs.byt x (List.mem_of_getElem? e2))]
theorem zBV {ls:List (List Int)} (h:∀ l∈ls,Sec l):refP 32 ls=sumP 32 ls:=by
  have:=zAq (F:=fun _ x=>x) (f:=fun _=>1) h (fun _ x _ hx=>(zpj hx).symm) (Nat.le_refl ls.length)
  exact this
theorem zBW {ls:List (List Int)} (h:∀ l∈ls,Sec l) (h7:ls.length≤7):refQ 32 ls=sumQ 32 ls:=by
  have:=zAq (F:=fun k x=>zeO x (zdY k)) (f:=pow8) h (fun k x hk hx=>zwz hx (by omega)) (Nat.le_refl ls.length)
  exact this
end Wf

namespace Wf
open Go Go.RowKit Go.Proofs
set_option linter.unusedSimpArgs false
set_option linter.unusedVariables false
set_option maxHeartbeats 4000000
section
variable (g:Geo) (row k n:Int)
theorem zwA:zes [.agg [.int .i64 g.l,.int .i64 g.d,.int .i64 g.c],.int .i64 row]=some (.bool (zcw g row)):=by
  rw [zwi]
  unfold ztm
  rw [show D.agg [.int .i64 g.l,.int .i64 g.d,.int .i64 g.c]=gD g.l g.d g.c from rfl,zfC,zae]
  show asI IntKind.i64 (.int .i64 _) _=_
  rw [zaU]
  unfold zcw
  cases h:g.ok
  · have:zdn g.l g.d g.c=false:=h
    simp [this]
  · have:zdn g.l g.d g.c=true:=h
    by_cases h0:0≤row
    · simp [this,h0]
    · simp [this,h0]
theorem zss:zaW [.agg [.int .i64 g.l,.int .i64 g.d,.int .i64 g.c],.int .i64 row]=some (.tup [.int .i64 (parP g row).1,.int .i64 (parP g row).2]):=zvi g row
theorem zwB:zbi [.agg [.int .i64 g.l,.int .i64 g.d,.int .i64 g.c],.int .i64 row,.int .i64 k]=some (.int .i64 (zcT g row k)):=zsp g row k
theorem zyv:zaf [.agg [.int .i64 g.l,.int .i64 g.d,.int .i64 g.c]]=some (.int .i64 g.width):=ziy g
theorem zvv:zaF [.agg [.int .i64 g.l,.int .i64 g.d,.int .i64 g.c],.int .i64 row,.int .i64 k]=some (.int .i64 (zcT g row k)):=zBE g row k
theorem zxF:zax [.agg [.int .i64 g.l,.int .i64 g.d,.int .i64 g.c],.int .i64 row]=some (.tup [.int .i64 (parP g row).1,.int .i64 (parP g row).2]):=zAe g row
theorem zqZ:zag [.agg [.int .i64 g.l,.int .i64 g.d,.int .i64 g.c],.int .i64 row]=some (.bool (zcw g row)):=zpp g row
theorem zgz:zaa [.agg [.int .i64 g.l,.int .i64 g.d,.int .i64 g.c]]=some (.int .i64 g.width):=zk4 g
theorem zAr:zcL [.agg [.int .i64 g.l,.int .i64 g.d,.int .i64 g.c],.int .i64 n]=some (.tup [.int .i64 (ofP g n).1,.int .i64 (ofP g n).2.1,.bool (ofP g n).2.2]):=zBF g n
theorem zwC:zbK [.agg [.int .i64 g.l,.int .i64 g.d,.int .i64 g.c],.int .i64 row]=some (.sl .own (zq8 g row)):=zys g row
theorem zAs:zaO [.agg [.int .i64 g.l,.int .i64 g.d,.int .i64 g.c],.int .i64 row]=some (.sl .own (zq8 g row)):=zBG g row
end
def zkM (g:Geo) (row:Int) (ls:List (List Int)):Nat→List Part
  | 0=>List.replicate g.d.toNat (Tag.nil,[])
  | k+1=>(zkM g row ls k).set (zcT g row (k:Int)).toNat (Tag.fresh,ls.getD k [])
def zAt (g:Geo) (row:Int) (ls:List (List Int)) (p q:List Int):List Part:=
  if (parP g row).2 < 0 then (zkM g row ls g.width.toNat).set (parP g row).1.toNat (Tag.fresh,p)
  else ((zkM g row ls g.width.toNat).set (parP g row).1.toNat (Tag.fresh,p)).set (parP g row).2.toNat (Tag.fresh,q)
theorem zg6 (g:Geo) (row:Int) (ls:List (List Int)) (k:Nat):(zkM g row ls k).length=g.d.toNat:=by
  induction k with
  | zero=>simp [zkM]
  | succ k ih=>simp [zkM,ih]
theorem zyw (g:Geo) (row:Int) (ls:List (List Int)) (k:Nat):∀ x∈zkM g row ls k,Part.free x=true:=by
  induction k with
  | zero=>intro x hx; rw [(List.mem_replicate.1 hx).2]; rfl
  | succ k ih=>
    intro x hx
    rcases List.mem_or_eq_of_mem_set hx with hx | hx
    · exact ih x hx
    · rw [hx]; rfl
theorem zxG {ps:List Part} (h:∀ x∈ps,Part.free x=true) (i:Nat) (l:List Int):∀ x∈ps.set i (Tag.fresh,l),Part.free x=true:=by
  intro x hx
  rcases List.mem_or_eq_of_mem_set hx with hx | hx
  · exact h x hx
  · rw [hx]; rfl
theorem zpq (t:Tag) (l:List D):D.isAgg (.sl t l)=false:=rfl
theorem zBX (n:Nat):pL (List.replicate n (Tag.nil,[]))=List.replicate n (D.sl .nil []):=by simp [pL,uL]
section
variable {g:Geo} {row:Int} (h:zcw g row=true)
include h
theorem zxH {ls:List (List Int)} {d:Int} (d0:0≤d) (d1:d < g.d) (h1:d≠(parP g row).1) (h2:d≠(parP g row).2):∀ k:Nat,(k:Int)≤g.width→
    (zkM g row ls k)[d.toNat]? =some (if zft g d row < k then (Tag.fresh,ls.getD (zft g d row).toNat []) else (Tag.nil,[]))
  | 0,_=>by
    obtain ⟨c0,c1,c2⟩:=zm4 h d0 d1 h1 h2
    unfold zkM
    rw [List.getElem?_replicate,if_pos (by omega),if_neg (by omega)]
  | k+1,hk=>by
    obtain ⟨c0,c1,c2⟩:=zm4 h d0 d1 h1 h2
    have hdi:=zj9 h (k:=(k:Int)) (by omega) (by omega)
    have ih:=zxH (ls:=ls) d0 d1 h1 h2 k (by omega)
    unfold zkM
    rw [List.getElem?_set]
    by_cases e:zft g d row=k
    · have e2:zcT g row k=d:=by rw [←e]; exact c2
      rw [if_pos (by rw [e2]),if_pos (by rw [zg6,e2]; omega),if_pos (by omega)]
      congr 3
      rw [e]; rfl
    · have e2:zcT g row k≠d:=fun e2=>e (zqq h c0 c1 (by omega) (by omega) (by rw [c2,e2]))
      rw [if_neg (by omega),ih]
      by_cases hlt:zft g d row < k
      · rw [if_pos hlt,if_pos (by omega)]
      · rw [if_neg hlt,if_neg (by omega)]
theorem zyx (ls:List (List Int)) (p q:List Int) (hp:p=sumP 32 ls) (hq:q=sumQ 32 ls∨g.l=5):zAt g row ls p q=fP (zdd g row ls):=by
  obtain ⟨hk,r0,r1⟩:=zbU.1 h
  have hw:=zbQ hk
  obtain ⟨p0,p1,p2⟩:=zth h
  have hpq:=zCr h
  have hlen:(zAt g row ls p q).length=g.d.toNat:=by unfold zAt; split<;>simp [zg6]
  apply List.ext_getElem?
  intro i
  by_cases hi:i < g.d.toNat
  · have hr:(fP (zdd g row ls))[i]? =some (Tag.fresh,atR g row ls i):=zvr (znZ (by omega))
    rw [hr]
    have hbase:∀ d:Int,0≤d→d < g.d→d≠(parP g row).1→d≠(parP g row).2→(zkM g row ls g.width.toNat)[d.toNat]? =some (Tag.fresh,atR g row ls d):=by
      intro d d0 d1 n1 n2
      obtain ⟨c0,c1,c2⟩:=zm4 h d0 d1 n1 n2
      rw [zxH h d0 d1 n1 n2 _ (by omega),if_pos (by omega)]
      unfold atR
      rw [if_neg n1,if_neg n2]
    unfold zAt
    by_cases e1:(i:Int)=(parP g row).1
    · have ha:atR g row ls i=p:=by rw [e1,at_p h,hp]
      rw [ha]
      split
      · rw [List.getElem?_set,if_pos (by omega),if_pos (by rw [zg6]; omega)]
      · rw [List.getElem?_set,if_neg (by omega),List.getElem?_set,if_pos (by omega),if_pos (by rw [zg6]; omega)]
    · by_cases e2:(i:Int)=(parP g row).2
      · have ha:atR g row ls i=sumQ 32 ls:=by rw [e2,at_q h]
        have h6:¬ (parP g row).2 < 0:=by omega
        rw [ha,if_neg h6,List.getElem?_set,if_pos (by omega),if_pos (by rw [List.length_set,zg6]; omega)]
        rcases hq with hq | hq
        · rw [hq]
        · rcases p2 with ⟨e,_⟩ | ⟨_,_,e⟩<;>omega
      · have:=hbase i (by omega) (by omega) e1 e2
        rw [Int.toNat_natCast] at this
        split
        · rw [List.getElem?_set,if_neg (by omega),this]
        · rw [List.getElem?_set,if_neg (by omega),List.getElem?_set,if_neg (by omega),this]
  · rw [List.getElem?_eq_none (by omega),List.getElem?_eq_none (by simp [zsf]; omega)]
end
end Wf

namespace Wf
open Go Go.RowKit Go.Proofs
set_option linter.unusedSimpArgs false
set_option linter.unusedVariables false
set_option maxHeartbeats 4000000
def zfH (g:Geo) (row:Int) (rs:List Part) (k:Nat):List Part:=(List.range k).map fun (j:Nat)=>rs.getD (zcT g row (j:Int)).toNat (.nil,[])
theorem zvw (g:Geo) (row:Int) (rs:List Part):(zfH g row rs g.width.toNat).map (·.2)=zfY g row (rs.map (·.2)):=by
  unfold zfH zfY
  rw [List.map_map]
  apply List.map_congr_left
  intro j _
  simp [List.getD_eq_getElem?_getD]
  cases rs[(zcT g row (j:Int)).toNat]? <;>rfl
theorem ztN (g:Geo) (row:Int) (rs:List Part) {k:Nat} {x:Part} (h:rs[(zcT g row (k:Int)).toNat]? =some x):zfH g row rs (k+1)=zfH g row rs k++[x]:=by
  unfold zfH
  rw [List.range_succ,List.map_append]
  simp [List.getD_eq_getElem?_getD,h]
theorem zq0 {R:Type} (a b:D) (f:LfT [.any,.any]→Option R):zau [.any,.any] [a,b] f=f (a,b,()):=by rw [zcH,zcH,zdQ]
theorem zBY (g:Geo) (row:Int) (tg:Tag) {ps:List Part} (hn:ps.length < 100000):
    zcX [.agg [.int .i64 g.l,.int .i64 g.d,.int .i64 g.c],.int .i64 row,.sl tg (pL ps)]=some (solD (zti g row (ps.map (·.2)))):=by
  rw [ztA,zdX]
  have hm:(ps.map fun x=>(zcp x.1 x.2,x.2)).map (·.2)=ps.map (·.2):=by rw [List.map_map]; rfl
  have hlen:(ps.map fun x=>(zcp x.1 x.2,x.2)).length=ps.length:=by simp
  rw [←hm]
  rw [←hlen] at hn
  generalize (ps.map fun x=>(zcp x.1 x.2,x.2))=rs at*
  clear hm hlen ps
  unfold zof zti
  cases h:zcw g row
  · simp [zwA,h,solD]
  by_cases hl:(rs.length:Int)=g.d
  · rw [if_pos ⟨rfl,by simp [hl]⟩]
    have hk:=(zbU.1 h).1
    have hw:=zbQ hk
    have hdd:=ok_d hk
    have hb:((((pL rs).length:Nat):Int) != g.d)=false:=by simp [hl]
    rw [zwA,zae,zcQ,h,Bool.not_true,zas,hb,zas,zyv,zae,zaU]
    let st:Nat→(Int×List D×(Int×Int×Int×PUnit)×List D×Int×Int×PUnit)×PUnit:=fun k=>((row,pL rs,(g.l,g.d,g.c,PUnit.unit),pL (zfH g row rs k),g.width,(k:Int),PUnit.unit),PUnit.unit)
    have hst:st 0=((row,pL rs,(g.l,g.d,g.c,PUnit.unit),[],g.width,0,PUnit.unit),PUnit.unit):=rfl
    rw [←hst]
    refine zcN st g.width.toNat (by omega) ?_ ?_
    · intro again k hk'
      dsimp only [st]
      have hd:(k:Int) < g.width:=by omega
      have hdi:=zj9 h (k:=(k:Int)) (by omega) (by omega)
      obtain ⟨x,hx⟩:∃ x,rs[(zcT g row (k:Int)).toNat]? =some x:=⟨_,List.getElem?_eq_getElem (by omega)⟩
      have hpl:(zfH g row rs k).length=k:=by simp [zfH]
      simp (disch:=first | omega | assumption | (simp; done) | fail) [-List.all_eq_true,hd,zwB,hdi.1,zaB (zdh hx),hpl,zah,zAl,ztN g row rs hx]
    · intro again
      dsimp only [st]
      have hd:¬ ((g.width.toNat:Nat):Int) < g.width:=by omega
      obtain ⟨p0,p1,p2⟩:=zth h
      obtain ⟨xp,hxp⟩:∃ x,rs[(parP g row).1.toNat]? =some x:=⟨_,List.getElem?_eq_getElem (by omega)⟩
      have hpo:pOf g row (rs.map (·.2))=xp.2:=by unfold pOf; simp [List.getD_eq_getElem?_getD,hxp]
      have hrl:(zfH g row rs g.width.toNat).length < 100000:=by simp [zfH]; omega
      have hsol:=fun tq q=>zBT xp.1 tq .lent xp.2 q hrl
      rw [zvw] at hsol
      rw [hpo]
      rcases p2 with ⟨p2,_⟩ | ⟨q0,q1,_⟩
      · have hqo:qOf g row (rs.map (·.2))=[]:=by unfold qOf; rw [if_pos (by omega)]
        have hq:(parP g row).2 < 0:=by omega
        have hs:=hsol .nil []
        rw [show uL []=([]:List D) from rfl] at hs
        rw [hqo]
        simp (disch:=first | omega | assumption | (simp; done) | fail) [-List.all_eq_true,ztK,hd,zss,hq,p0,zaB (zdh hxp),hs]
        cases zm1 xp.2 [] (zfY g row (rs.map (·.2)))<;>simp [-List.all_eq_true,solD,zf4]
      · obtain ⟨xq,hxq⟩:∃ x,rs[(parP g row).2.toNat]? =some x:=⟨_,List.getElem?_eq_getElem (by omega)⟩
        have hqo:qOf g row (rs.map (·.2))=xq.2:=by unfold qOf; rw [if_neg (by omega)]; simp [List.getD_eq_getElem?_getD,hxq]
        have hq:¬ (parP g row).2 < 0:=by omega
        rw [hqo]
        simp (disch:=first | omega | assumption | (simp; done) | fail) [-List.all_eq_true,ztK,hd,zss,hq,p0,q0,zaB (zdh hxp),zaB (zdh hxq),hsol]
        cases zm1 xp.2 xq.2 (zfY g row (rs.map (·.2)))<;>simp [-List.all_eq_true,solD,zf4]
  · have h2:¬ (true=true∧(((rs.map (·.2)).length:Nat):Int)=g.d):=by rintro ⟨_,e⟩; simp at e; exact hl e
    rw [if_neg h2]
    simp [zwA,h,solD,hl]
theorem zBZ (g:Geo) (row:Int) (tg:Tag) {ps:List Part} (hn:ps.length < 100000) (hs:∀ x∈ps,Sec x.2):
    zbl [.agg [.int .i64 g.l,.int .i64 g.d,.int .i64 g.c],.int .i64 row,.sl tg (pL ps)]=some (solD (zBt g row (ps.map (·.2)))):=by
  rw [zkz,zdX]
  have hlen:(ps.map fun x=>(zcp x.1 x.2,x.2)).length=ps.length:=by simp
  have hm:(ps.map fun x=>(zcp x.1 x.2,x.2)).map (·.2)=ps.map (·.2):=by rw [List.map_map]; rfl
  have hs':∀ x∈(ps.map fun x=>(zcp x.1 x.2,x.2)),Sec x.2:=by intro x hx; obtain ⟨y,hy,rfl⟩:=List.mem_map.1 hx; exact hs y hy
  rw [←hlen] at hn
  rw [←hm]
  generalize (ps.map fun x=>(zcp x.1 x.2,x.2))=rs at*
  clear hm hlen hs ps
  unfold ze7 zBt
  have hsl:∀ x∈rs.map (·.2),Sec x:=by intro x hx; obtain ⟨y,hy,rfl⟩:=List.mem_map.1 hx; exact hs' y hy
  have hl':∀ x∈rs,x.2.length=32:=fun x hx=>(hs' x hx).len
  have hall:((rs.map (·.2)).all fun x=>decide (x.length=32))=true:=by rw [List.all_eq_true]; intro x hx; simpa using (hsl x hx).len
  cases h:zcw g row
  · simp [zqZ,h,solD]
  by_cases hl:(rs.length:Int)=g.width
  · rw [if_pos ⟨rfl,by simp [hl],hall⟩]
    obtain ⟨hk,r0,r1⟩:=zbU.1 h
    have hw:=zbQ hk
    have hdd:=ok_d hk
    have hb:((((pL rs).length:Nat):Int) != g.width)=false:=by simp [hl]
    have hrl:rs.length=g.width.toNat:=by omega
    rw [zqZ,zae,zcQ,h,Bool.not_true,zas,zgz,zae,zaU,hb,zas,zab (by omega),zab (by rfl),zab (by omega),zab (by omega),zab (by simp)]
    let st:Nat→(Int×List D×(Int×Int×Int×PUnit)×List D×List D×Int×Int×PUnit)×PUnit:=fun k=>((row,pL rs,(g.l,g.d,g.c,PUnit.unit),pL (zkM g row (rs.map (·.2)) k),pL rs,((pL rs).length:Int),(k:Int),PUnit.unit),PUnit.unit)
    have hst:st 0=((row,pL rs,(g.l,g.d,g.c,PUnit.unit),List.replicate g.d.toNat (D.sl .nil []),pL rs,((pL rs).length:Int),0,PUnit.unit),PUnit.unit):=by
      simp only [st,zkM,zBX]; rfl
    rw [←hst]
    refine zcN st rs.length (by omega) ?_ ?_
    · intro again k hk'
      dsimp only [st]
      obtain ⟨x,hx⟩:∃ x,rs[k]? =some x:=⟨_,List.getElem?_eq_getElem hk'⟩
      have hxs:=hl' x (List.mem_of_getElem? hx)
      have hxe:rs[k]=x:=by rw [List.getElem?_eq_getElem hk'] at hx; exact Option.some.inj hx
      have hdi:=zj9 h (k:=(k:Int)) (by omega) (by omega)
      have hfl:=zg6 g row (rs.map (·.2)) k
      obtain ⟨y,hy⟩:∃ y,(zkM g row (rs.map (·.2)) k)[(zcT g row (k:Int)).toNat]? =some y:=⟨_,List.getElem?_eq_getElem (by omega)⟩
      have hgd:(rs.map (·.2)).getD k []=x.2:=by simp [List.getD_eq_getElem?_getD,hx]
      have hgx:(pL rs)[k]? =some (.sl x.1 (uL x.2)):=zdh hx
      have hlt:(zcT g row (k:Int)).toNat < g.d.toNat:=by omega
      simp (disch:=first | omega | assumption | (simp; done) | fail) [-List.all_eq_true,hk',zaB hgx,zvv,hxs,hdi.1,hfl,hlt,zaB (zdh hy),zpq,zah,zvp,zkM]
      rw [hxe]
    · intro again
      dsimp only [st]
      obtain ⟨p0,p1,p2⟩:=zth h
      have hfl:=zg6 g row (rs.map (·.2)) rs.length
      obtain ⟨y,hy⟩:∃ y,(zkM g row (rs.map (·.2)) rs.length)[(parP g row).1.toNat]? =some y:=⟨_,List.getElem?_eq_getElem (by omega)⟩
      have hrp:=zFR (n:=32) .lent (ps:=rs) (by omega) (by omega) (by omega) hl'
      have hrq:=zFS (n:=32) .lent (ps:=rs) (by omega) (by omega) (by omega) hl'
      rw [zBV hsl] at hrp
      rw [zBW hsl (by simp; omega)] at hrq
      have hff:=zyx h (rs.map (·.2)) (sumP 32 (rs.map (·.2))) (sumQ 32 (rs.map (·.2))) rfl (.inl rfl)
      have hfree:=zxG (zyw g row (rs.map (·.2)) rs.length) (parP g row).1.toNat (sumP 32 (rs.map (·.2)))
      have hfree2:=zxG hfree (parP g row).2.toNat (sumQ 32 (rs.map (·.2)))
      have hlt:(parP g row).1.toNat < g.d.toNat:=by omega
      unfold zAt at hff
      rw [←hrl] at hff
      rcases p2 with ⟨p2,_⟩ | ⟨q0,q1,_⟩
      · rw [if_pos (by omega)] at hff
        have hq:¬ (0≤(parP g row).2):=by omega
        simp (disch:=first | omega | assumption | (simp; done) | fail) [-List.all_eq_true,zxF,hrp,p0,hfl,hlt,zaB (zdh hy),zpq,hq,zvp,zqW hfree,solD,hff,zf4]
      · rw [if_neg (by omega)] at hff
        have hlt2:(parP g row).2.toNat < g.d.toNat:=by omega
        obtain ⟨z,hz⟩:∃ z,((zkM g row (rs.map (·.2)) rs.length).set (parP g row).1.toNat (Tag.fresh,sumP 32 (rs.map (·.2))))[(parP g row).2.toNat]? =some z:=⟨_,List.getElem?_eq_getElem (by simp [hfl]; omega)⟩
        simp (disch:=first | omega | assumption | (simp; done) | fail) [-List.all_eq_true,zxF,hrp,hrq,p0,q0,hfl,hlt,hlt2,zaB (zdh hy),zaB (zdh hz),zpq,zvp,zqW hfree,zqW hfree2,solD,hff,zf4]
  · have h2:¬ (true=true∧(((rs.map (·.2)).length:Nat):Int)=g.width∧((rs.map (·.2)).all fun x=>decide (x.length=32))=true):=by rintro ⟨_,e,_⟩; simp at e; exact hl e
    rw [if_neg h2]
    simp [zqZ,h,solD,zgz,hl]
end Wf

namespace Wf
open Go Go.RowKit Go.Proofs
set_option linter.unusedSimpArgs false
set_option linter.unusedVariables false
set_option maxHeartbeats 4000000
theorem zos (live:List Bool):D.lentL (live.map D.bool)=live.map D.bool:=by
  induction live with
  | nil=>rfl
  | cons x l ih=>simp [ih]
section
variable {B:Ben} {d a e:Int} {x:List Int}
def Like (B B':Ben):Prop:=B'.n=B.n∧∀ e,B'.failed e=B.failed e
theorem Like.trans {A B C:Ben} (h1:Like A B) (h2:Like B C):Like A C:=⟨h2.1.trans h1.1,fun e=>(h2.2 e).trans (h1.2 e)⟩
theorem Like.up {B B':Ben} (h:Like B B') (live:List Bool) (e:Int):B'.up live e=B.up live e:=by unfold Ben.up; rw [h.1,h.2]
end
section
variable {T0 T1:Tb} {b:Nat} {idx:List Nat} {B:Ben}
end
end Wf

namespace Wf
open Go Go.RowKit Go.Proofs
set_option linter.unusedSimpArgs false
set_option linter.unusedVariables false
set_option maxHeartbeats 4000000
theorem zCz (l:List Int):(D.sl .fresh (uL l)).free=true:=by simp only [D.free,zpn]
theorem zAu {p q:List Int} {ls o:List (List Int)} (h:zm1 p q ls=some o):o.length=ls.length:=by
  unfold zm1 at h
  split at h
  · cases h
  split at h
  · cases h
  split at h
  · cases h; simp [zcM]
  · split at h
    · cases h; simp [zcM]
    · cases h; simp [zcM]
  · cases h; simp [zcM]
theorem zB0 {g:Geo} {r:Int} {ls o:List (List Int)} (h:zti g r ls=some o):o.length=g.width.toNat:=by
  unfold zti at h
  split at h
  · rw [zAu h]; simp [zfY]
  · cases h
theorem zAv {g:Geo} {r j k:Int} (h:zcw g r=true) (j0:0≤j) (j1:j < g.width) (k0:0≤k) (k1:k < g.width) (e:numP g r j=numP g r k):j=k:=by
  have h1:=zCq h j0 j1
  have h2:=zCq h k0 k1
  rw [e,h2] at h1
  injection h1 with h1 _
  exact zqq h j0 j1 k0 k1 h1.symm
theorem zAw {g:Geo} {n:Int} (n0:0≤n) (n1:n < g.cap):numP g (rowG g n) (zcU g n)=n:=by
  have hk:=zqp n0 n1
  have hw:=zbQ hk
  have hc:=(zdy.1 hk).2.2
  rw [zxu] at n1
  unfold numP rowG zcU
  generalize g.c=c at*
  generalize g.width=w at*
  have hw:w=2∨w=3∨w=4∨w=5∨w=6∨w=7:=by omega
  rcases hc with rfl | rfl | rfl<;>rcases hw with rfl | rfl | rfl | rfl | rfl | rfl<;>omega
section
variable {T0 T1:Tb} {b:Nat} {idx:List Nat} {B:Ben}
theorem zDH {live:List Bool} {d a:Int} (hdn:B.down=false) (d0:0≤d) (hu:B.up live d=true) (a0:0≤a) (a1:a < 52):B.read d a=(B.cur d a,0):=by
  obtain ⟨h1,h2,_⟩:=zES d0 hu
  rw [zuW h1] at h2
  unfold Ben.read
  rw [if_neg (by rw [may0.2 ⟨h1,hdn⟩]; simp)]
  unfold DS.read
  rw [if_neg (by rw [zte.2 ⟨h2,a0,a1⟩]; simp)]
  rfl
theorem zAx {live:List Bool} {d:Int} (a:Int) (hdn:B.down=true) (d0:0≤d) (hu:B.up live d=true):B.read d a=([],6):=by
  obtain ⟨h1,h2,_⟩:=zES d0 hu
  have hm:B.may d=6:=by unfold Ben.may; rw [h1,hdn]; rfl
  unfold Ben.read
  rw [hm]; simp
def Ben.secP (B:Ben) (live:List Bool) (r:Int) (n k:Nat):List Part:=(List.range n).map fun (d:Nat)=>if d < k then (if B.up live d then (Tag.fresh,B.cur d (36+r)) else (Tag.nil,[])) else (Tag.nil,[])
theorem zB1 (live:List Bool) (r:Int) (n:Nat):(B.secP live r n n).map (·.2)=B.secs live r n:=by
  unfold Ben.secP Ben.secs
  rw [List.map_map]
  apply List.map_congr_left
  intro d hd
  have:=List.mem_range.1 hd
  simp only [Function.comp_apply,if_pos this]
  split<;>rfl
@[simp] theorem ztO (live:List Bool) (r:Int) (n k:Nat):(B.secP live r n k).length=n:=by simp [Ben.secP]
theorem zAy (live:List Bool) (r:Int) {n k:Nat} (hk:k < n) (hu:B.up live k=true):(B.secP live r n k).set k (Tag.fresh,B.cur k (36+r))=B.secP live r n (k+1):=by
  apply List.ext_getElem?
  intro j
  rw [List.getElem?_set]
  unfold Ben.secP
  by_cases hj:j < n
  · by_cases hjk:k=j
    · subst hjk; simp [hj,hu]
    · rw [if_neg hjk]
      simp only [List.getElem?_map,List.getElem?_range hj,Option.map_some]
      by_cases h1:j < k
      · simp only [if_pos h1,if_pos (show j < k+1 by omega)]
      · simp only [if_neg h1,if_neg (show ¬ j < k+1 by omega)]
  · have h1:k≠j:=by omega
    rw [if_neg h1,List.getElem?_eq_none (by simp; omega),List.getElem?_eq_none (by simp; omega)]
theorem zAz (live:List Bool) (r:Int) {n k:Nat} (hk:k < n) (hu:B.up live k=false):B.secP live r n k=B.secP live r n (k+1):=by
  unfold Ben.secP
  apply List.map_congr_left
  intro j hj
  by_cases h1:j < k
  · simp only [if_pos h1,if_pos (show j < k+1 by omega)]
  · by_cases hjk:j=k
    · subst hjk; simp [hu]
    · simp only [if_neg h1,if_neg (show ¬ j < k+1 by omega)]
theorem zAA (live:List Bool) (r:Int) (n:Nat):pL (B.secP live r n 0)=List.replicate n (D.sl .nil []):=by
  unfold Ben.secP pL
  rw [List.map_map]
  apply List.ext_getElem?
  intro j
  by_cases hj:j < n
  · simp [hj,uL]
  · rw [List.getElem?_eq_none (by simp; omega),List.getElem?_eq_none (by simp; omega)]
theorem zDI (live:List Bool) (r:Int) {n k:Nat} (hk:k < n):(B.secP live r n k)[k]? =some (Tag.nil,[]):=by unfold Ben.secP; simp [hk]
theorem zwD (h:At T0 T1 b idx B) (hw:B.w≤1000000) (tg:Tag) (live:List Bool) (g:Geo) (r:Int):
    zb5 [.h kB b 0,.sl tg (live.map D.bool),.agg [.int .i64 g.l,.int .i64 g.d,.int .i64 g.c],.int .i64 r] [P0 T0 b idx B,P1 T1 idx B]=
      some (Ans.mk (.tup [.sl .own (pL (fP (B.sRead live g r).1)),.int .i64 (B.sRead live g r).2]) [] []):=by
  rw [zo9,zos]
  unfold ziZ Ben.sRead
  have hck:zaj [.agg [.int .i64 g.l,.int .i64 g.d,.int .i64 g.c]]=some (.int .i64 (if g.ok then 0 else 1)):=zfC g.l g.d g.c
  cases hk:g.ok
  · have hf:zcw g r=false:=by unfold zcw; rw [hk]; rfl
    rw [hk] at hck
    simp [hck,hf]; rfl
  rw [hk] at hck
  by_cases r0:r < 0
  · have hf:zcw g r=false:=by unfold zcw; rw [hk]; simp; omega
    simp [hck,hf,r0]; rfl
  by_cases r1:r≥16
  · have hf:zcw g r=false:=by unfold zcw; rw [hk]; simp; omega
    simp [hck,hf,r0,show 16≤r by omega]; rfl
  have hr:zcw g r=true:=zbU.2 ⟨hk,by omega,by omega⟩
  have hdd:=ok_d hk
  rw [if_neg (by simp [hr])]
  have r1':¬ 16≤r:=by omega
  simp (disch:=first | omega | assumption | (simp; done) | fail) only [hck,if_true,zae,zaU,zuN,zuM,zab,List.length_replicate,Nat.zero_add,Nat.le_refl]
  let st:Nat→(Nat×List D×Int×(Int×Int×Int×PUnit)×List D×Int×Int×PUnit)×List (List D)×List (List D)×PUnit:=fun k=>
    ((b,live.map D.bool,r,(g.l,g.d,g.c,PUnit.unit),pL (B.secP live r g.d.toNat k),((g.d.toNat:Nat):Int),(k:Int),PUnit.unit),P0 T0 b idx B,P1 T1 idx B,PUnit.unit)
  have hst:st 0=((b,live.map D.bool,r,(g.l,g.d,g.c,PUnit.unit),List.replicate g.d.toNat (D.sl .nil []),((g.d.toNat:Nat):Int),0,PUnit.unit),P0 T0 b idx B,P1 T1 idx B,PUnit.unit):=by
    simp only [st,zAA]; rfl
  rw [←hst]
  refine zgx (fun x=>g.d.toNat - x.1.2.2.2.2.2.2.1.toNat) (fun _=>_) (fun x=>∃ k:Nat,k≤g.d.toNat∧(B.down=true→∀ j:Nat,j < k→B.up live j=false)∧x=st k) ?_ ⟨0,by omega,fun _ j hj=>by omega,rfl⟩ (by simp [st]; omega)
  rintro again _ ⟨k,hk',hdn,rfl⟩ hag
  dsimp only [st]
  by_cases hlt:k < g.d.toNat
  · have hup:=zEY h .lent live (d:=(k:Int)) (by omega)
    by_cases hu:B.up live (k:Int)=true
    · rw [hu] at hup
      cases hdo:B.down
      · have hrd:=zAj h hw (k:Int) (36+r)
        rw [zDH hdo (by omega) hu (by omega) (by omega)] at hrd
        have hg:=zDI (B:=B) live r hlt
        have:=hag (st (k+1)) ⟨k+1,by omega,fun e=>(by rw [hdo] at e; cases e),rfl⟩ (by simp [st]; omega)
        dsimp only [st] at this
        rw [←zAy live r hlt hu] at this
        simp (disch:=first | omega | assumption | (simp; done) | fail) [hlt,hup,hrd,zah,ztO,zaB (zdh hg),zpq,zvp]
        rw [show ((k+1:Nat):Int)=(k:Int)+1 by omega] at this
        simpa [hdo] using this
      · have hrd:=zAj h hw (k:Int) (36+r)
        rw [zAx (36+r) hdo (by omega) hu] at hrd
        have hany:(List.range g.d.toNat).any (fun (d:Nat)=>B.up live d)=true:=by
          rw [List.any_eq_true]; exact ⟨k,List.mem_range.2 hlt,hu⟩
        rw [hany]
        simp (disch:=first | omega | assumption | (simp; done) | fail) [hlt,hup,hrd,zah]
        rfl
    · have hu':B.up live (k:Int)=false:=by simpa using hu
      rw [hu'] at hup
      have:=hag (st (k+1)) ⟨k+1,by omega,fun e j hj=>by
        by_cases ej:j=k
        · subst ej; exact hu'
        · exact hdn e j (by omega),rfl⟩ (by simp [st]; omega)
      dsimp only [st] at this
      rw [←zAz live r hlt hu'] at this
      rw [show ((k+1:Nat):Int)=(k:Int)+1 by omega] at this
      simp (disch:=first | omega | assumption | (simp; done) | fail) [hlt,hup,zah]
      simpa using this
  · have hke:k=g.d.toNat:=by omega
    have hno:¬ (B.down=true∧(List.range g.d.toNat).any (fun (d:Nat)=>B.up live d)=true):=by
      rintro ⟨e1,e2⟩
      rw [List.any_eq_true] at e2
      obtain ⟨j,hj,hu⟩:=e2
      rw [hdn e1 j (by rw [hke]; exact List.mem_range.1 hj)] at hu; cases hu
    rw [if_neg hno]
    have htk:=zBY g r .lent (ps:=B.secP live r g.d.toNat g.d.toNat) (by rw [ztO]; omega)
    rw [zB1] at htk
    subst hke
    simp (disch:=first | omega | assumption | (simp; done) | fail) [-List.all_eq_true,ztK,ztO,htk]
    cases zti g r (B.secs live r g.d.toNat) with
    | none=>simp [-List.all_eq_true,solD]; rfl
    | some o=>simp [-List.all_eq_true,solD,zf4]
def Ben.oneT (B:Ben) (live:List Bool) (g:Geo) (n:Int):Tag:=
  if (ofP g n).2.2=false then .nil
  else if B.up live (ofP g n).1 then .fresh
  else if (B.sRead live g (ofP g n).2.1).2≠0 then .nil
  else .fresh
theorem zyy (h:At T0 T1 b idx B) (hw:B.w≤1000000) (tg:Tag) (live:List Bool) (g:Geo) (n:Int):
    zch [.h kB b 0,.sl tg (live.map D.bool),.agg [.int .i64 g.l,.int .i64 g.d,.int .i64 g.c],.int .i64 n] [P0 T0 b idx B,P1 T1 idx B]=
      some (Ans.mk (.tup [.sl (B.oneT live g n) (uL (B.sOne live g n).1),.int .i64 (B.sOne live g n).2]) [] []):=by
  rw [zqS,zos]
  unfold zkH Ben.sOne Ben.oneT
  have hof:=zAr g n
  by_cases hc:0≤n∧n < g.cap
  · have ho:ofP g n=(zcT g (rowG g n) (zcU g n),rowG g n,true):=by unfold ofP; rw [if_pos hc]
    have hk:=zqp hc.1 hc.2
    have hrf:=zm3 hc.1 hc.2
    have hr:zcw g (rowG g n)=true:=zbU.2 ⟨hk,hrf.1,hrf.2.1⟩
    have hcol:0≤zcU g n∧zcU g n < g.width:=zDx hk (n / g.c)
    have hdi:=zj9 hr hcol.1 hcol.2
    have hw2:=zbQ hk
    rw [ho] at hof ⊢
    have hup:=zEY h .lent live (d:=zcT g (rowG g n) (zcU g n)) hdi.1
    have hrd:=zAj h hw (zcT g (rowG g n) (zcU g n)) (36+rowG g n)
    have hsr:=zwD h hw .lent live g (rowG g n)
    dsimp only at hof ⊢
    by_cases hu:B.up live (zcT g (rowG g n) (zcU g n))=true
    · rw [hu] at hup
      simp (disch:=first | omega | assumption | (simp; done) | fail) [-List.all_eq_true,hof,hup,hrd,zah,hu,zCz]
    · have hu':B.up live (zcT g (rowG g n) (zcU g n))=false:=by simpa using hu
      rw [hu'] at hup
      by_cases he:(B.sRead live g (rowG g n)).2=0
      · have hlen:(B.sRead live g (rowG g n)).1.length=g.width.toNat:=by
          unfold Ben.sRead at he ⊢
          rw [if_neg (by simp [hr])] at he ⊢
          split
          · rename_i hx; rw [if_pos hx] at he; exact absurd he (by decide)
          · rename_i hx
            rw [if_neg hx] at he
            cases ht:zti g (rowG g n) (B.secs live (rowG g n) g.d.toNat) with
            | none=>rw [ht] at he; exact absurd he (by decide)
            | some o=>exact zB0 ht
        have hnums:=zwC g (rowG g n)
        have hnd:zq8 g (rowG g n)=numD g (rowG g n) g.width.toNat:=by unfold zq8; rw [if_pos hr]
        rw [hnd] at hnums
        rw [he] at hsr
        simp (disch:=first | omega | assumption | (simp; done) | fail) only [hof,zae,zeo,zcH,zdQ,zaU,zcQ,Bool.not_true,zas,hup,zb9,hsr,zbL,zuN,hnums,zab,Nat.zero_add,Nat.le_refl,zho,hu',he,if_true,if_false,ne_eq,not_true_eq_false,Bool.false_eq_true,reduceCtorEq]
        generalize (B.sRead live g (rowG g n)).1=out at*
        let s2:Nat→(Int×List D×List D×Int×Int×PUnit)×List (List D)×List (List D)×PUnit:=fun j=>((n,pL (fP out),numD g (rowG g n) g.width.toNat,((g.width.toNat:Nat):Int),(j:Int),PUnit.unit),P0 T0 b idx B,P1 T1 idx B,PUnit.unit)
        show zb4 _ (s2 0)=_
        refine zcN s2 (zcU g n).toNat (by omega) ?_ ?_
        · intro again j hj
          dsimp only [s2]
          have hne:¬ numP g (rowG g n) j=n:=by
            intro e
            have:=zAv hr (j:=(j:Int)) (k:=zcU g n) (by omega) (by omega) hcol.1 hcol.2 (by rw [e,zAw hc.1 hc.2])
            omega
          have hgn:(numD g (rowG g n) g.width.toNat)[j]? =some (.int .i64 (numP g (rowG g n) j)):=ztg g (rowG g n) g.width.toNat (by omega)
          have hlt:(j:Int) < ((g.width.toNat:Nat):Int):=by omega
          have hlt2:j < g.width.toNat:=by omega
          simp (disch:=first | omega | assumption | (simp; done) | fail) [-List.all_eq_true,hlt,hlt2,zho,zaB hgn,hne,zah]
        · intro again
          dsimp only [s2]
          have hgn:(numD g (rowG g n) g.width.toNat)[(zcU g n).toNat]? =some (.int .i64 (numP g (rowG g n) ((zcU g n).toNat:Int))):=ztg g (rowG g n) g.width.toNat (by omega)
          rw [show (((zcU g n).toNat:Nat):Int)=zcU g n by omega,zAw hc.1 hc.2] at hgn
          have hgo:(pL (fP out))[(zcU g n).toNat]? =some (.sl .fresh (uL (out.getD (zcU g n).toNat []))):=ztL (by omega)
          rw [show (((zcU g n).toNat:Nat):Int)=zcU g n by omega]
          have hlt:zcU g n < ((g.width.toNat:Nat):Int):=by omega
          have hlt2:(zcU g n).toNat < g.width.toNat:=by omega
          simp (disch:=first | omega | assumption | (simp; done) | fail) [-List.all_eq_true,hlt,hlt2,hcol.1,zho,zaB hgn,zaB hgo,hlen,zCz]
      · simp (disch:=first | omega | assumption | (simp; done) | fail) [-List.all_eq_true,hof,hup,hsr,hu',he]
        rfl
  · have ho:ofP g n=(0,0,false):=by unfold ofP; rw [if_neg hc]
    rw [ho] at hof ⊢
    simp [hof]
    rfl
end
end Wf

namespace Wf
open Go Go.RowKit Go.Proofs
set_option linter.unusedSimpArgs false
set_option linter.unusedVariables false
set_option maxHeartbeats 4000000
def zwE (w left:Int) (down:Bool) (hs:List D):List D:=[.int .i64 w,.int .i64 left,.bool down,.sl .own hs]
theorem zwF (m k:Nat):((List.range k).map fun j=>hD (m+j))++[hD (m+k)]=(List.range (k+1)).map fun j=>hD (m+j):=by simp [List.range_succ]
theorem zyz (l:List Nat):zdN (l.map hD)=true:=by simp only [zdN,List.all_map,List.all_eq_true]; intro i _; rfl
theorem zAB (l:List Nat):zh3 1 (l.map hD)=true:=by simp only [zh3,List.all_map,List.all_eq_true]; intro i _; rfl
theorem zrx {α:Type} (k:Nat) (a:α):List.replicate k a++[a]=List.replicate (k+1) a:=by
  rw [List.replicate_succ']
theorem zB2 (T0 T1:Tb) {n:Int} (h0:1≤n) (h1:n≤8):
    zbo [.int .i64 n] [T0,T1]=some (Ans.mk (.tup [.h kB T0.length 0,.int .i64 0]) []
      [T0++[zwE 0 (-1) false ((List.range n.toNat).map fun j=>hD (T1.length+j))],T1++List.replicate n.toNat DS.new.cells]):=by
  rw [zra]
  unfold zl7
  have d1:decide (n < 1)=false:=by simp; omega
  have d2:decide (n > 8)=false:=by simp; omega
  rw [d1,zas,d2,zas,zqg]
  have hn:n=(n.toNat:Int):=by omega
  let st:Nat→(Nat×Int×Int×PUnit)×List (List D)×List (List D)×PUnit:=fun k=>
    ((T0.length,n,(k:Int),PUnit.unit),T0++[zwE 0 (-1) false ((List.range k).map fun j=>hD (T1.length+j))],T1++List.replicate k DS.new.cells,PUnit.unit)
  have h00:st 0=((T0.length,n,0,PUnit.unit),T0++[[D.own0 (D.int IntKind.i64 (0:Int)),D.own0 (D.int IntKind.i64 (-1:Int)),D.own0 (D.bool false),D.own0 (D.sl Tag.nil [])]],T1,PUnit.unit):=by
    simp [st,zwE,D.own0]
  rw [←h00]
  refine zb2 st n.toNat (by omega) ?_ ?_
  · intro again k hk
    dsimp only [st]
    have hd:decide ((k:Int) < n)=true:=by simp; omega
    have hrow:(T0++[zwE 0 (-1) false ((List.range k).map fun j=>hD (T1.length+j))])[T0.length]? =some (zwE 0 (-1) false ((List.range k).map fun j=>hD (T1.length+j))):=by simp
    have hnew:=zFP (T1++List.replicate k DS.new.cells)
    have hl:(T1++List.replicate k DS.new.cells).length=T1.length+k:=by simp
    rw [hl,List.append_assoc,zrx] at hnew
    rw [hd,zaY,zaB hrow]
    unfold zwE at hrow ⊢
    rw [zeX,zeX,zeX,zj3,zbL,hnew,zae,zb9,zfs,zb9,zab (by rfl),zab (by rfl),zaB hrow,zeX,zeX,zeX,zj3,zbL]
    rw [zab (by simp; omega),zab (by rfl),zab (by rfl),zqg,zDg hrow]
    have hset:=zxh hrow (List.set [D.int .i64 0,.int .i64 (-1),.bool false,.sl .own ((List.range k).map fun j=>hD (T1.length+j))] 3 .undef)
    have hsn:=zwF T1.length k
    unfold hD at hsn
    have hH:(List.map (fun j=>hD (T1.length+j)) (List.range k))++[D.h kD (T1.length+k) 0]=(List.range (k+1)).map fun j=>hD (T1.length+j):=hsn
    dsimp only
    rw [zaB hset,zab (by simp),hH,zab (by simp)]
    have e1:((List.range (k+1)).map fun j=>hD (T1.length+j))=((List.range (k+1)).map fun j=>T1.length+j).map hD:=by rw [List.map_map]; rfl
    rw [e1,zab (zyz _),zab (zAB _),zqg,zaI,zah (by omega) (by omega),ziN hset,←e1,List.set_set]
    simp [zwE]
  · intro again
    dsimp only [st]
    have hd:decide (((n.toNat:Nat):Int) < n)=false:=by simp; omega
    rw [hd,zas]
def nIdx (T1:Tb) (n:Nat):List Nat:=(List.range n).map fun j=>T1.length+j
def nT0 (T0 T1:Tb) (n:Nat):Tb:=T0++[bRow (Ben.new n) (nIdx T1 n)]
def nT1 (T1:Tb) (n:Nat):Tb:=T1++List.replicate n DS.new.cells
theorem zDJ (T1:Tb) (n:Nat):((List.range n).map fun j=>hD (T1.length+j))=(nIdx T1 n).map hD:=by unfold nIdx; rw [List.map_map]; rfl
theorem zAC (T0 T1:Tb) {n:Nat} (h8:n≤8):At (nT0 T0 T1 n) (nT1 T1 n) T0.length (nIdx T1 n) (Ben.new n):=by
  refine ⟨by simp [nT0],?_,fun i hi=>?_,by simp [nIdx,Ben.new],zsd h8⟩
  · unfold List.Nodup nIdx
    rw [List.pairwise_map]
    exact List.Pairwise.imp (fun h e=>h (by omega)) (List.nodup_range (n:=n))
  · unfold nIdx at hi
    obtain ⟨j,hj,rfl⟩:=List.mem_map.1 hi
    have:=List.mem_range.1 hj
    simp [nT1]; omega
theorem zE5 (T0 T1:Tb) (n:Nat):P0 (nT0 T0 T1 n) T0.length (nIdx T1 n) (Ben.new n)=nT0 T0 T1 n:=zz6 (by unfold nT0; simp)
theorem zE6 (T1:Tb) (n:Nat):P1 (nT1 T1 n) (nIdx T1 n) (Ben.new n)=nT1 T1 n:=by
  unfold P1
  show putL _ _ _++[]=_
  rw [List.append_nil]
  refine zqo fun j i c h1 h2=>?_
  have hj:j < n:=by have:=zaS h1; simpa [nIdx] using this
  have e1:i=T1.length+j:=by
    unfold nIdx at h1
    rw [List.getElem?_map,List.getElem?_range hj] at h1
    simpa using h1.symm
  have e2:c=DS.new.cells:=by
    have:(Ben.new n).ds.map DS.cells=List.replicate n DS.new.cells:=by unfold Ben.new; simp
    rw [this] at h2
    rw [List.getElem?_replicate,if_pos hj] at h2
    exact (Option.some.inj h2).symm
  subst e1 e2
  unfold nT1
  rw [List.getElem?_append_right (by omega),show T1.length+j - T1.length=j by omega,List.getElem?_replicate,if_pos hj]
theorem zE7 (T0 T1:Tb) {n:Nat} (h0:1≤n) (h8:n≤8):
    zbo [.int .i64 n] [T0,T1]=some (Ans.mk (.tup [.h kB T0.length 0,.int .i64 0]) [] [P0 (nT0 T0 T1 n) T0.length (nIdx T1 n) (Ben.new n),P1 (nT1 T1 n) (nIdx T1 n) (Ben.new n)]):=by
  rw [zB2 T0 T1 (by omega) (by omega),zE5,zE6,Int.toNat_natCast,zDJ]
  rfl
structure Still (B:Ben):Prop where
  ok:B.Ok
  down:B.down=false
  ds:∀ s∈B.ds,s.failed=false∧s.pend=[]
theorem Still.dk {B:Ben} (h:Still B) (d:Int):(B.dk d).failed=false∧(B.dk d).pend=[]:=by
  unfold Ben.dk
  cases e:B.ds[d.toNat]? with
  | none=>exact ⟨rfl,rfl⟩
  | some s=>exact h.ds s (List.mem_of_getElem? e)
theorem Still.failed {B:Ben} (h:Still B) (d:Int):B.failed d=false:=by unfold Ben.failed; rw [(h.dk d).1,Bool.and_false]
theorem zvx {n:Nat} (h:n≤8):Still (Ben.new n):=⟨zsd h,rfl,fun s hs=>by
  unfold Ben.new at hs
  rw [(List.mem_replicate.1 hs).2]; exact ⟨rfl,rfl⟩⟩
theorem zE8 (n:Nat) (d:Int):(Ben.new n).dk d=DS.new:=by
  unfold Ben.dk Ben.new
  dsimp only
  rw [List.getElem?_replicate]
  split<;>rfl
theorem zB3 {a:Nat} (ha:a < 52):DS.new.base a=zdR:=by
  unfold DS.base
  show ((List.replicate 1664 (0:Int)).drop (a*32)).take 32=_
  rw [List.drop_replicate,List.take_replicate]
  unfold zdR
  congr 1
  omega
theorem zDK (n:Nat) (d:Int) {a:Int} (a0:0≤a) (a1:a < 52):(Ben.new n).cur d a=zdR:=by
  unfold Ben.cur
  rw [zE8]
  show look [] a (DS.new.base a.toNat)=_
  rw [ztf,zB3 (by omega)]
section
variable {B:Ben} {d a:Int} {x:List Int}
theorem zvy (h:Still B) (hx:Sec x):Still (B.damage d a x).2∧(B.damage d a x).2.n=B.n∧(B.damage d a x).2.w=B.w∧(B.damage d a x).2.left=B.left:=by
  refine ⟨⟨(zuV h.ok (.inl hx)).ok,?_,?_⟩,(zuV (d:=d) (a:=a) h.ok (.inl hx)).n,?_,?_⟩
  · unfold Ben.damage; split<;>exact h.down
  · unfold Ben.damage
    split
    · intro s hs
      rcases List.mem_or_eq_of_mem_set hs with hs | hs
      · exact h.ds s hs
      · subst hs
        unfold DS.damage
        dsimp only
        split
        · exact h.dk d
        · exact h.dk d
    · exact h.ds
  · unfold Ben.damage; split<;>rfl
  · unfold Ben.damage; split<;>rfl
theorem zyA (h:Still B) (hd:B.is d=true) (a0:0≤a) (a1:a < 52) (hx:Sec x) {e b:Int} (e0:0≤e) (b0:0≤b) (b1:b < 52):
    (B.damage d a x).1=0∧(B.damage d a x).2.cur e b=if e=d∧b=a then x else B.cur e b:=by
  have hk:=h.dk d
  have hw:(B.dk d).mayW a x=0:=zDt (zte.2 ⟨hk.1,a0,a1⟩) hx.len
  have e1:(B.dk d).damage a x=(0,(B.dk d).setSec a.toNat x):=by unfold DS.damage; rw [hw,if_pos rfl]
  unfold Ben.damage
  rw [if_pos hd,e1]
  refine ⟨rfl,?_⟩
  unfold Ben.cur
  rw [zwe hd e0]
  by_cases he:e=d
  · subst he
    rw [if_pos rfl]
    have hp:((B.dk e).setSec a.toNat x).pend=[]:=hk.2
    unfold DS.sec
    rw [hp,hk.2,ztf,ztf,zwd (zyj h.ok e).1.len (by omega) hx.len b.toNat (by omega)]
    by_cases hb:b=a
    · rw [if_pos (by omega),if_pos ⟨rfl,hb⟩]
    · rw [if_neg (by omega),if_neg (fun q=>hb q.2)]
  · rw [if_neg he,if_neg (fun q=>he q.1)]
end
def Ben.dmgs (B:Ben) (a:Int) (xs:List (List Int)):Nat→Ben
  | 0=>B
  | k+1=>((B.dmgs a xs k).damage (k:Int) a (xs.getD k [])).2
def rowL (g:Geo) (l:List Int) (r:Nat):List (List Int):=secL (l.drop (min r l.length)) g.width.toNat
theorem zpr {g:Geo} (hk:g.ok=true) (l:List Int) (r:Nat):Row g (rowL g l r):=⟨by have:=zbQ hk; simp [rowL]; omega,zxE _ _⟩
def zkN (gs:Nat→Geo) (l:List Int) (n:Nat):Nat→Ben
  | 0=>.new n
  | r+1=>(zkN gs l n r).dmgs (36+(r:Int)) (zdd (gs r) r (rowL (gs r) l r)) (min (gs r).d.toNat n)
structure Filld (gs:Nat→Geo) (l:List Int) (n:Nat) (R:Nat) (B:Ben):Prop where
  still:Still B
  num:B.n=n
  w:B.w=0
  left:B.left= -1
  cur:∀ d a:Int,0≤d→0≤a→a < 52→B.cur d a=if 36≤a∧a < 36+R∧d < (gs (a - 36).toNat).d∧d < n then atR (gs (a - 36).toNat) (a - 36) (rowL (gs (a - 36).toNat) l (a - 36).toNat) d else zdR
theorem zq1 {g:Geo} {r:Int} {data:List (List Int)} {d:Nat} (h:(d:Int) < g.d):(zdd g r data).getD d []=atR g r data d:=by
  rw [List.getD_eq_getElem?_getD,znZ h]; rfl
theorem zot {gs:Nat→Geo} {l:List Int} {n R:Nat} {B:Ben} (h:Filld gs l n R B) (hR:R < 16) (hk:(gs R).ok=true):∀ k,k≤min (gs R).d.toNat n→
    Still (B.dmgs (36+(R:Int)) (zdd (gs R) R (rowL (gs R) l R)) k)∧(B.dmgs (36+(R:Int)) (zdd (gs R) R (rowL (gs R) l R)) k).n=n∧(B.dmgs (36+(R:Int)) (zdd (gs R) R (rowL (gs R) l R)) k).w=0∧(B.dmgs (36+(R:Int)) (zdd (gs R) R (rowL (gs R) l R)) k).left= -1∧
    ∀ d a:Int,0≤d→0≤a→a < 52→(B.dmgs (36+(R:Int)) (zdd (gs R) R (rowL (gs R) l R)) k).cur d a=if a=36+R∧d < k then atR (gs R) R (rowL (gs R) l R) d else B.cur d a
  | 0,_=>⟨h.still,h.num,h.w,h.left,fun d a d0 a0 a1=>by rw [if_neg (by omega)]; rfl⟩
  | k+1,hk'=>by
    obtain ⟨i1,i2,i3,i4,i5⟩:=zot h hR hk k (by omega)
    have hr:zcw (gs R) (R:Int)=true:=zbU.2 ⟨hk,by omega,by omega⟩
    have hsec:=zER hr (zpr hk l R) (d:=(k:Int)) (by omega) (by omega)
    have hg:=zq1 (g:=gs R) (r:=R) (data:=rowL (gs R) l R) (d:=k) (by omega)
    generalize hB:B.dmgs (36+(R:Int)) (zdd (gs R) R (rowL (gs R) l R)) k=C at*
    have hC:B.dmgs (36+(R:Int)) (zdd (gs R) R (rowL (gs R) l R)) (k+1)=(C.damage (k:Int) (36+(R:Int)) (atR (gs R) R (rowL (gs R) l R) k)).2:=by
      show ((B.dmgs (36+(R:Int)) (zdd (gs R) R (rowL (gs R) l R)) k).damage (k:Int) (36+(R:Int)) ((zdd (gs R) R (rowL (gs R) l R)).getD k [])).2=_
      rw [hB,hg]
    rw [hC]
    have hd:C.is (k:Int)=true:=zh9.2 ⟨by omega,by rw [i2]; omega⟩
    obtain ⟨j1,j2,j3,j4⟩:=zvy (d:=(k:Int)) (a:=36+(R:Int)) i1 hsec
    refine ⟨j1,j2.trans i2,j3.trans i3,j4.trans i4,fun d a d0 a0 a1=>?_⟩
    rw [(zyA i1 hd (by omega) (by omega) hsec d0 a0 a1).2,i5 d a d0 a0 a1]
    by_cases ha:a=36+(R:Int)
    · by_cases hdk:d=k
      · subst hdk; rw [if_pos ⟨rfl,ha⟩,if_pos ⟨ha,by omega⟩]
      · rw [if_neg (fun q=>hdk q.1)]
        by_cases hlt:d < k
        · rw [if_pos ⟨ha,hlt⟩,if_pos ⟨ha,by omega⟩]
        · rw [if_neg (fun q=>hlt q.2),if_neg (fun q=>by omega)]
    · rw [if_neg (fun q=>ha q.2),if_neg (fun q=>ha q.1),if_neg (fun q=>ha q.1)]
theorem zkO {gs:Nat→Geo} {l:List Int} {n:Nat} (n8:n≤8) (hk:∀ r,(gs r).ok=true):∀ R,R≤16→Filld gs l n R (zkN gs l n R)
  | 0,_=>⟨zvx n8,by simp [zkN,Ben.new,Ben.n],rfl,rfl,fun d a d0 a0 a1=>by rw [if_neg (by omega)]; exact zDK n d a0 a1⟩
  | R+1,hR=>by
    have ih:=zkO (l:=l) n8 hk R (by omega)
    obtain ⟨i1,i2,i3,i4,i5⟩:=zot ih (by omega) (hk R) (min (gs R).d.toNat n) (Nat.le_refl _)
    refine ⟨i1,i2,i3,i4,fun d a d0 a0 a1=>?_⟩
    show ((zkN gs l n R).dmgs (36+(R:Int)) (zdd (gs R) R (rowL (gs R) l R)) (min (gs R).d.toNat n)).cur d a=_
    rw [i5 d a d0 a0 a1,ih.cur d a d0 a0 a1]
    have hdd:=ok_d (hk R)
    by_cases ha:a=36+(R:Int)
    · have e:(a - 36).toNat=R:=by omega
      have e2:a - 36=(R:Int):=by omega
      rw [e,e2]
      by_cases hlt:d < (gs R).d∧d < n
      · rw [if_pos ⟨ha,by omega⟩,if_pos ⟨by omega,by omega,hlt.1,hlt.2⟩]
      · rw [if_neg (fun q=>hlt ⟨by omega,by omega⟩),if_neg (fun q=>by omega),if_neg (fun q=>hlt ⟨q.2.2.1,q.2.2.2⟩)]
    · rw [if_neg (fun q=>ha q.1)]
      by_cases hc:36≤a∧a < 36+(R:Int)∧d < (gs (a - 36).toNat).d∧d < n
      · rw [if_pos hc,if_pos ⟨hc.1,by omega,hc.2.2.1,hc.2.2.2⟩]
      · rw [if_neg hc,if_neg (fun q=>hc ⟨q.1,by omega,q.2.2.1,q.2.2.2⟩)]
end Wf

namespace Wf
open Go Go.RowKit Go.Proofs
set_option linter.unusedSimpArgs false
set_option linter.unusedVariables false
set_option maxHeartbeats 4000000
theorem zAD (l:List Int) (n:Nat):(intL l).drop n=intL (l.drop n):=by simp [intL,List.map_drop]
theorem zst (l:List Int):zvK 1 (intL l)=true:=by simp [zvK,intL,D.cell,D.width]
theorem zvz (l:List Int) (r:Int) (r0:0≤r):cutI (min r (l.length:Int)) (l.length:Int) (intL l)=intL (l.drop (min r.toNat l.length)):=by
  unfold cutI
  have:(min r (l.length:Int)).toNat=min r.toNat l.length:=by omega
  rw [this,zAD,List.take_of_length_le (by rw [zfF]; simp; omega)]
theorem zAE (g:Geo) (hk:g.ok=true) (r:Int) (r0:0≤r) (tg:Tag) (l:List Int):
    za4 [.agg [.int .i64 g.l,.int .i64 g.d,.int .i64 g.c],.int .i64 r,.sl tg (intL l)]=some (.sl .own (pL (fP (rowL g l r.toNat)))):=by
  rw [zkL,zmV]
  unfold zfe
  have hw:=zbQ hk
  have hsp:=fun tg=>zoS tg (l.drop (min r.toNat l.length)) (n:=g.width.toNat) (by omega)
  rw [show ((g.width.toNat:Nat):Int)=g.width by omega] at hsp
  have hm1:0≤min r (l.length:Int):=by omega
  have hm2:min r (l.length:Int)≤(l.length:Int):=by omega
  have hfree:=zf4 (rowL g l r.toNat)
  unfold rowL at hfree ⊢
  simp (disch:=first | omega | assumption | (simp; done) | fail) [-List.all_eq_true,zfF,hm1,hm2,zst,zgz,zvz l r r0,hsp,hfree]
section
variable {T0 T1:Tb}
theorem zE9 {g:Geo} (hk:g.ok=true) {n:Nat} (n0:1≤n) (n8:n≤8) (tg:Tag) (l:List Int):
    za1 [.agg [.int .i64 g.l,.int .i64 g.d,.int .i64 g.c],.int .i64 n,.sl tg (intL l)] [T0,T1]=
      some (Ans.mk (.h kB T0.length 0) [] [P0 (nT0 T0 T1 n) T0.length (nIdx T1 n) (zkN (fun _=>g) l n 16),P1 (nT1 T1 n) (nIdx T1 n) (zkN (fun _=>g) l n 16)]):=by
  rw [zi8,zmV]
  unfold zel
  have hat0:=zAC T0 T1 n8
  have hnew:=zE7 T0 T1 n0 n8
  generalize nT0 T0 T1 n=U0 at*
  generalize nT1 T1 n=U1 at*
  generalize nIdx T1 n=idx at*
  have hw:=zbQ hk
  have hdd:=ok_d hk
  have hF:=fun R hR=>zkO (gs:=fun _=>g) (l:=l) n8 (fun _=>hk) R hR
  have hat:∀ B:Ben,B.Ok→B.n=n→At U0 U1 T0.length idx B:=fun B hB hn=>⟨hat0.b,hat0.nd,hat0.lt,by rw [hat0.len]; unfold Ben.n at hn; simp [Ben.new]; omega,hB⟩
  simp (disch:=first | omega | assumption | (simp; done) | fail) only [hnew,zae,zb9,zfs,zeo,zq0,zaU,zuN,zzH,zas,show zjW (D.h kB T0.length 0)=true from rfl,zab]
  let st:Nat→(Int×List D×(Int×Int×Int×PUnit)×D×Int×PUnit)×List (List D)×List (List D)×PUnit:=fun r=>(((n:Int),intL l,(g.l,g.d,g.c,PUnit.unit),.h kB T0.length 0,(r:Int),PUnit.unit),P0 U0 T0.length idx (zkN (fun _=>g) l n r),P1 U1 idx (zkN (fun _=>g) l n r),PUnit.unit)
  show zb4 _ (st 0)=_
  refine zcN st 16 (by omega) ?_ ?_
  · intro again r hr
    dsimp only [st]
    have hfine:zcw g (r:Int)=true:=zbU.2 ⟨hk,by omega,by omega⟩
    have hm1:0≤min (r:Int) (l.length:Int):=by omega
    have hm2:min (r:Int) (l.length:Int)≤(l.length:Int):=by omega
    have hsp:=fun tg=>zoS tg (l.drop (min r l.length)) (n:=g.width.toNat) (by omega)
    rw [show ((g.width.toNat:Nat):Int)=g.width by omega] at hsp
    have hc:=zvz l (r:Int) (by omega)
    rw [Int.toNat_natCast] at hc
    have hfill:=zBZ g (r:Int) .lent (ps:=fP (rowL g l r)) (by simp [rowL]; omega) (by intro x hx; obtain ⟨y,hy,rfl⟩:=List.mem_map.1 hx; exact zxE _ _ y hy)
    rw [zxz,zz9 hfine (zpr hk l r)] at hfill
    have hrl:=zsf g (r:Int) (rowL g l r)
    have hr16:(r:Int) < 16:=by omega
    unfold rowL at hfill
    simp (disch:=first | omega | assumption | (simp; done) | fail) only [zs6,zaI,zfF,zab,zst,zgz,zae,zaU,hc,hsp,zbL,zdc,Nat.zero_add,Nat.le_refl,hfill,solD,zeo,zq0,zcQ]
    have hxs:secL (l.drop (min r l.length)) g.width.toNat=rowL g l r:=rfl
    rw [hxs]
    have hFr:=hF r (by omega)
    have hdm:=fun k hk'=>zot (gs:=fun _=>g) hFr hr hk k hk'
    have hnx:zkN (fun _=>g) l n (r+1)=(zkN (fun _=>g) l n r).dmgs (36+(r:Int)) (zdd g r (rowL g l r)) (min g.d.toNat n):=rfl
    rw [hnx]
    generalize zkN (fun _=>g) l n r=B at*
    have h0:∀ k,k≤min g.d.toNat n→P0 U0 T0.length idx (B.dmgs (36+(r:Int)) (zdd g r (rowL g l r)) k)=P0 U0 T0.length idx B:=by
      intro k hk'
      induction k with
      | zero=>rfl
      | succ k ih=>
        rw [←ih (by omega)]
        show P0 U0 T0.length idx ((B.dmgs (36+(r:Int)) (zdd g r (rowL g l r)) k).damage _ _ _).2=_
        unfold Ben.damage
        split<;>rfl
    let s2:Nat→(Int×List D×(Int×Int×Int×PUnit)×D×Int×List D×Bool×Int×PUnit)×List (List D)×List (List D)×PUnit:=fun k=>
      (((n:Int),intL l,(g.l,g.d,g.c,PUnit.unit),.h kB T0.length 0,(r:Int),pL (fP (zdd g r (rowL g l r))),true,(k:Int),PUnit.unit),P0 U0 T0.length idx B,P1 U1 idx (B.dmgs (36+(r:Int)) (zdd g r (rowL g l r)) k),PUnit.unit)
    show zb4 _ (s2 0)=_
    refine zcN s2 (min g.d.toNat n) (by omega) ?_ ?_
    · intro again2 k hk'
      dsimp only [s2]
      obtain ⟨i1,i2,i3,i4,i5⟩:=hdm k (by omega)
      have hA:=hat _ i1.ok i2
      have hg:(pL (fP (zdd g r (rowL g l r))))[k]? =some (.sl .fresh (uL (atR g r (rowL g l r) k))):=zdh (zvr (znZ (by omega)))
      have hb:=zBP hA (by omega) (k:Int) (a:=36+(r:Int)) (by intro w hw; rw [(i1.dk _).2] at hw; cases hw) .fresh (atR g r (rowL g l r) k)
      rw [h0 k (by omega)] at hb
      have hgd:(zdd g r (rowL g l r)).getD k []=atR g r (rowL g l r) k:=zq1 (by omega)
      have h1:(k:Int) < ((g.d.toNat:Nat):Int):=by omega
      have h2:(k:Int) < (n:Int):=by omega
      have h3:k < g.d.toNat:=by omega
      simp (disch:=first | omega | assumption | (simp; done) | fail) [hrl,h1,h2,h3,zaB hg,hb,zah]
      rw [←hgd]; rfl
    · intro again2
      dsimp only [s2]
      rw [h0 _ (Nat.le_refl _)]
      by_cases h1:min g.d.toNat n < g.d.toNat
      · have h2:¬ ((min g.d.toNat n:Nat):Int) < (n:Int):=by omega
        have h1':((min g.d.toNat n:Nat):Int) < ((g.d.toNat:Nat):Int):=by omega
        simp (disch:=first | omega | assumption | (simp; done) | fail) only [zaY,hrl,zAk,zCx,zab,Nat.zero_add,Nat.le_refl,zs6,zuM,zuO]
        rw [zah (by omega) (by omega)]; rfl
      · have h1':¬ ((min g.d.toNat n:Nat):Int) < ((g.d.toNat:Nat):Int):=by omega
        simp (disch:=first | omega | assumption | (simp; done) | fail) only [zaY,hrl,zAk,zCx,zab,Nat.zero_add,Nat.le_refl,zuM,zuO]
        rw [zah (by omega) (by omega)]; rfl
  · intro again
    dsimp only [st]
    simp (disch:=first | omega | assumption | (simp; done) | fail) only [zuM,show (D.h kB T0.length 0).free=true from rfl,zab]
end
end Wf

namespace Wf
open Go Go.RowKit Go.Proofs
set_option linter.unusedSimpArgs false
set_option linter.unusedVariables false
set_option maxHeartbeats 4000000
section
variable {B:Ben} {d a:Int}
theorem zB4 (hd:B.is d=true) {e b:Int} (e0:0≤e) (hne:e≠d):(B.fail d).2.cur e b=B.cur e b:=by
  unfold Ben.fail
  rw [if_pos hd]
  unfold Ben.cur
  rw [zwe hd e0,if_neg hne]
theorem zwG (hd:B.is d=true) {e:Int} (he:B.is e=true):(B.fail d).2.failed e=(decide (e=d) || B.failed e):=by
  unfold Ben.fail
  rw [if_pos hd]
  unfold Ben.failed
  rw [zz3,he,zwe hd (zh9.1 he).1]
  by_cases h:e=d
  · subst h; rw [if_pos rfl,show DS.dead.failed=true from rfl]; simp
  · rw [if_neg h]; simp [h]
theorem zAF (hd:B.is d=true):(B.fail d).1=0∧(B.fail d).2.n=B.n∧(B.fail d).2.down=B.down∧(B.fail d).2.left=B.left∧(B.fail d).2.w=B.w:=by
  unfold Ben.fail
  rw [if_pos hd]
  exact ⟨rfl,by simp,rfl,rfl,rfl⟩
end
theorem zB5 {n:Nat} {d:Int} (d0:0≤d):((List.replicate n true)[d.toNat]?).getD false=decide (d < n):=by
  rw [List.getElem?_replicate]
  by_cases h:d < n
  · rw [if_pos (by omega)]; simp [h]
  · rw [if_neg (by omega)]; simp [h]
theorem zFa {B:Ben} {n:Nat} (hn:B.n=n) {d:Int} (d0:0≤d):B.up (List.replicate n true) d=(decide (d < n) && !B.failed d):=by
  unfold Ben.up
  rw [zB5 d0,hn]
  cases decide (d < (n:Int))<;>simp
end Wf

namespace Wf
open Go Go.RowKit Go.Proofs
set_option linter.unusedSimpArgs false
set_option linter.unusedVariables false
set_option maxHeartbeats 4000000
theorem zyB (l:List Bool):(l.map D.bool).all D.free=true:=by rw [List.all_map,List.all_eq_true]; intro b _; rfl
theorem zyC {d k:Nat} (hk:k < d):((List.range d).map fun i=>D.bool (decide (i < k))).set k (.bool true)=(List.range d).map fun i=>D.bool (decide (i < k+1)):=by
  apply List.ext_getElem?
  intro j
  rw [List.getElem?_set]
  by_cases hj:j < d
  · by_cases hjk:k=j
    · subst hjk; simp [hj]
    · rw [if_neg hjk]
      simp only [List.getElem?_map,List.getElem?_range hj,Option.map_some,Option.some.injEq,D.bool.injEq,decide_eq_decide]
      omega
  · have h1:k≠j:=by omega
    rw [if_neg h1,List.getElem?_eq_none (by simp; omega),List.getElem?_eq_none (by simp; omega)]
theorem zB6 {d:Nat} (h0:1≤d) (h8:d≤8):zbw [.int .i64 0,.int .i64 d]=some (.sl .own ((List.replicate d true).map D.bool)):=by
  rw [zle]
  unfold zfw
  rw [zab (by omega),zab (by rfl),zab (by omega),zab (by omega),zab (by simp),zab (by simp),Int.toNat_natCast]
  let st:Nat→(Int×Int×List D×Int×Int×PUnit)×PUnit:=fun k=>((0,(d:Int),(List.range d).map (fun i=>D.bool (decide (i < k))),(d:Int),(k:Int),PUnit.unit),PUnit.unit)
  have hst:st 0=((0,(d:Int),List.replicate d (D.bool false),(d:Int),0,PUnit.unit),PUnit.unit):=by
    have:(List.range d).map (fun i=>D.bool (decide (i < 0)))=List.replicate d (D.bool false):=by
      apply List.ext_getElem?; intro j
      by_cases hj:j < d
      · simp [hj]
      · rw [List.getElem?_eq_none (by simp; omega),List.getElem?_eq_none (by simp; omega)]
    simp only [st,this]; rfl
  rw [←hst]
  refine zb2 st d (by omega) ?_ ?_
  · intro again k hk
    dsimp only [st]
    have hd:decide ((k:Int) < (d:Int))=true:=by simp; omega
    have hg:((List.range d).map (fun i=>D.bool (decide (i < k))))[k]? =some (.bool false):=by simp [hk]
    rw [hd,zaY,zab (by omega),zab (by simp; omega),Nat.zero_add,show Int.toNat (k:Int)=k from rfl,zaB hg,zab (by rfl),zaI,zah (by omega) (by omega),zab (by simp),zyC hk]
    rfl
  · intro again
    dsimp only [st]
    have hd:decide ((d:Int) < (d:Int))=false:=by simp
    have hd1:decide ((d:Int) > 0)=true:=by simp; omega
    have hall:(List.range d).map (fun i=>D.bool (decide (i < d)))=(List.replicate d true).map D.bool:=by
      apply List.ext_getElem?; intro j
      by_cases hj:j < d
      · simp [hj]
      · rw [List.getElem?_eq_none (by simp; omega),List.getElem?_eq_none (by simp; omega)]
    have hz:decide ((0:Int) % 3 > 0)=false:=rfl
    have hz2:((0:Int) % 9 == 8)=false:=rfl
    rw [hd,zas,hd1,zaY,ztJ 0 3 (by omega) (by omega),zae,zaU,hz,zas,zaY,ztJ 0 9 (by omega) (by omega),zae,zaU,hz2,zas,zab (by rfl),hall,zab (zyB _)]
end Wf

namespace Wf
open Go Go.RowKit
universe u
def idf {α:Sort u} (a:α):α:=a
@[simp] theorem zc4 {α:Sort u} (a:α):idf a=a:=congrFun (funext fun _=>rfl) a
section
variable {R α β:Type}
@[congr high] theorem zFs {b b':Bool} {x y:Option R} (h:idf b=b'):brK b x y=brK b' x y:=by rw [zc4] at h; rw [h]
@[congr high] theorem zD9 {x x':Option α} {f:α→Option R} (h:idf x=x'):zao x f=zao x' f:=by rw [zc4] at h; rw [h]
@[congr high] theorem zFt {c c':Prop} [d:Decidable c] [d':Decidable c'] {x:Option R} (h:idf c=c'):sif c x=sif c' x:=by rw [zc4] at h; subst h; congr
@[congr high] theorem zFb {n n':Int} {f:Int→Option R} (h:idf n=n'):letN n f=letN n' f:=by rw [zc4] at h; rw [h]
@[congr high] theorem zFc {l l':List α} {i i':Nat} {f:α→Option R} (h:idf l=l') (h':idf i=i'):getK l i f=getK l' i' f:=by rw [zc4] at h h'; rw [h,h']
@[congr high] theorem zFu {k:IntKind} {d d':D} {f:Int→Option R} (h:idf d=d'):asI k d f=asI k d' f:=by rw [zc4] at h; rw [h]
@[congr high] theorem zFv {d d':D} {f:Bool→Option R} (h:idf d=d'):asB d f=asB d' f:=by rw [zc4] at h; rw [h]
@[congr high] theorem zFw {d d':D} {f:ByteArray→Option R} (h:idf d=d'):asS d f=asS d' f:=by rw [zc4] at h; rw [h]
@[congr high] theorem zFd {d d':D} {f:Tag→List D→Option R} (h:idf d=d'):asSl d f=asSl d' f:=by rw [zc4] at h; rw [h]
@[congr high] theorem zEa {d d':D} {f:List D→Option R} (h:idf d=d'):zbD d f=zbD d' f:=by rw [zc4] at h; rw [h]
@[congr high] theorem zDL {d d':D} {f:List D→Option R} (h:idf d=d'):zlx d f=zlx d' f:=by rw [zc4] at h; rw [h]
@[congr high] theorem zEb {d d':D} {f:List D→Option R} (h:idf d=d'):asAgg d f=asAgg d' f:=by rw [zc4] at h; rw [h]
@[congr high] theorem zEc {d d':D} {f:List D→Option R} (h:idf d=d'):zdG d f=zdG d' f:=by rw [zc4] at h; rw [h]
@[congr high] theorem zFe {d d':D} {f:D→Option R} (h:idf d=d'):asAt d f=asAt d' f:=by rw [zc4] at h; rw [h]
@[congr high] theorem zEd {d d':List D} {f:D→Option R} (h:idf d=d'):zzk d f=zzk d' f:=by rw [zc4] at h; rw [h]
@[congr high] theorem zFx {k:Nat} {d d':D} {f:Nat→Option R} (h:idf d=d'):asH k d f=asH k d' f:=by rw [zc4] at h; rw [h]
@[congr high] theorem zEe {d d':D} {f:Bool→Option R} (h:idf d=d'):znN d f=znN d' f:=by rw [zc4] at h; rw [h]
@[congr high] theorem zDM {d d':D} {f:Bool→Option R} (h:idf d=d'):zpW d f=zpW d' f:=by rw [zc4] at h; rw [h]
@[congr high] theorem zDN {kk:MK} {d d':D} {f:List (Int×D)→Option R} (h:idf d=d'):zh0 kk d f=zh0 kk d' f:=by rw [zc4] at h; rw [h]
@[congr high] theorem zEf {kk:MK} {d d':D} {f:List (Int×D)→Option R} (h:idf d=d'):zpX kk d f=zpX kk d' f:=by rw [zc4] at h; rw [h]
@[congr high] theorem zFf {T T':Tb} {f:Tb→Option R} (h:idf T=T'):letT T f=letT T' f:=by rw [zc4] at h; rw [h]
@[congr high] theorem zEg {l l':List α} {f:α→List α→Option R} (h:idf l=l'):zh1 l f=zh1 l' f:=by rw [zc4] at h; rw [h]
@[congr high] theorem zFg {l l':List α} {x:Option R} (h:idf l=l'):nilK l x=nilK l' x:=by rw [zc4] at h; rw [h]
@[congr high] theorem zB7 {ls:List Lf} {d d':List D} {f:LfT ls→Option R} (h:idf d=d'):zau ls d f=zau ls d' f:=by rw [zc4] at h; rw [h]
@[congr high] theorem zEh {B:(α→Option R)→α→Option R} {a a':α} (h:idf a=a'):zb4 B a=zb4 B a':=by rw [zc4] at h; rw [h]
end
@[simp] theorem zFy (k i:Nat):zjW (.h k i 0)=true:=rfl
@[simp] theorem zF0 (k i:Nat):D.free (.h k i 0)=true:=rfl
@[simp] theorem zhx {R:Type} (a b:D) (f:LfT [.any,.any]→Option R):zau [.any,.any] [a,b] f=f (a,b,()):=by rw [zcH,zcH,zdQ]
@[simp] theorem zFz {β:Type} {l:List β} {n:Nat} (h:l.length=n):cut 0 n l=l:=by subst h; exact zdc l
end Wf

namespace Wf
open Go Go.RowKit Go.Proofs
set_option linter.unusedSimpArgs false
set_option linter.unusedVariables false
set_option maxHeartbeats 4000000
structure Run (U V:Tb) (b:Nat) (idx:List Nat) (B:Ben) (n:Nat) (K:Int):Prop where
  at':At U V b idx B
  num:B.n=n
  down:B.down=false
  left:B.left= -1
  w:B.w≤K
theorem Run.mono {U V:Tb} {b:Nat} {idx:List Nat} {B:Ben} {n:Nat} {K L:Int} (h:Run U V b idx B n K) (hk:K≤L):Run U V b idx B n L:=⟨h.at',h.num,h.down,h.left,by have:=h.w; omega⟩
theorem zyD (T0 T1:Tb) {g:Geo} (hk:g.ok=true) {n:Nat} (n0:1≤n) (n8:n≤8) (tg:Tag) (l:List Int):∃ U V idx B,
    za1 [.agg [.int .i64 g.l,.int .i64 g.d,.int .i64 g.c],.int .i64 n,.sl tg (intL l)] [T0,T1]=some (Ans.mk (.h kB T0.length 0) [] [P0 U T0.length idx B,P1 V idx B])∧
    Run U V T0.length idx B n 0∧Still B∧B.w=0∧(∀ d s:Int,0≤d→d < g.d→d < n→0≤s→s < 16→B.cur d (36+s)=atR g s (rowL g l s.toNat) d)∧(∀ d a:Int,0≤d→0≤a→a < 36∨g.d≤d→a < 52→B.cur d a=zdR):=by
  have hF:=zkO (gs:=fun _=>g) (l:=l) n8 (fun _=>hk) 16 (by omega)
  have hat0:=zAC T0 T1 n8
  refine ⟨_,_,_,_,zE9 hk n0 n8 tg l,⟨⟨hat0.b,hat0.nd,hat0.lt,?_,hF.still.ok⟩,hF.num,hF.still.down,hF.left,by rw [hF.w]; omega⟩,hF.still,hF.w,fun d s d0 d1 d2 s0 s1=>?_,fun d a d0 a0 ha a1=>?_⟩
  · have:=hF.num; unfold Ben.n at this; rw [hat0.len]; simp [Ben.new]; omega
  · rw [hF.cur d (36+s) d0 (by omega) (by omega),show (36+s - 36)=s by omega,if_pos ⟨by omega,by omega,d1,d2⟩]
  · rw [hF.cur d a d0 a0 a1,if_neg (fun q=>by omega)]
section
variable {U V:Tb} {b:Nat} {idx:List Nat} {B:Ben} {n:Nat} {K:Int}
theorem Run.up (h:Run U V b idx B n K) {d:Int} (d0:0≤d):B.up (List.replicate n true) d=(decide (d < n) && !B.failed d):=zFa h.num d0
theorem Run.is (h:Run U V b idx B n K) {d:Int} (d0:0≤d) (d1:d < n):B.is d=true:=zh9.2 ⟨d0,by rw [h.num]; exact d1⟩
theorem Run.fail (h:Run U V b idx B n K) {d:Int} (d0:0≤d) (d1:d < n):∃ B1,
    za3 [.h kB b 0,.int .i64 d] [P0 U b idx B,P1 V idx B]=some (Ans.mk (.int .i64 0) [] [P1 V idx B1])∧P0 U b idx B=P0 U b idx B1∧
    Run U V b idx B1 n K∧(∀ e:Int,0≤e→e < n→B1.failed e=(decide (e=d) || B.failed e))∧B1=(B.fail d).2∧(∀ e a:Int,0≤e→e≠d→B1.cur e a=B.cur e a):=by
  have hd:=h.is d0 d1
  obtain ⟨f1,f2,f3,f4,f5⟩:=zAF hd
  have hf:=zEZ h.at' d
  rw [f1] at hf
  have hp:P0 U b idx B=P0 U b idx (B.fail d).2:=by unfold Ben.fail; rw [if_pos hd]; rfl
  have hnx:=zDv (d:=d) h.at'.ok
  refine ⟨(B.fail d).2,hf,hp,⟨h.at'.nx hnx,f2.trans h.num,f3.trans h.down,f4.trans h.left,by rw [f5]; exact h.w⟩,fun e e0 e1=>zwG hd (h.is e0 e1),rfl,fun e a e0 hne=>zB4 hd e0 hne⟩
end
end Wf

namespace Wf
open Go Go.RowKit Go.Proofs
set_option linter.unusedSimpArgs false
set_option linter.unusedVariables false
set_option maxHeartbeats 4000000
@[simp ↓] theorem zF1 {R α:Type} (g:α→Option R) (f:(α→Option R)→Option R):jn g f=f g:=rfl
theorem zDO {R α:Type} {g:α→Option R} {f:(α→Option R)→Option R} {r:Option R} (I:α→Prop) (hg:∀ a,I a→g a=r) (hf:∀ j,(∀ a,I a→j a=r)→f j=r):jn g f=r:=hf g hg
section
variable {T0 T1:Tb} {b:Nat} {idx:List Nat} {B:Ben}
end
end Wf

namespace Wf
open Go Go.RowKit Go.Proofs
set_option linter.unusedSimpArgs false
set_option linter.unusedVariables false
set_option maxHeartbeats 4000000
section
variable {B:Ben}
end
end Wf

namespace Wf
open Go Go.RowKit Go.Proofs
set_option linter.unusedSimpArgs false
set_option linter.unusedVariables false
set_option maxHeartbeats 4000000
theorem zxI (g:Geo):zar [.agg [.int .i64 g.l,.int .i64 g.d,.int .i64 g.c]]=some (.int .i64 g.cap):=by
  rw [zhM]
  unfold zdD
  have hw:0≤g.width∧g.width≤8:=by
    unfold Geo.width zfM
    split
    · rename_i h; have:=zbQ h; unfold Geo.width zfM at this; rw [if_pos h] at this; omega
    · omega
  have hb:IntKind.i64.wrap (g.width*16)=g.width*16:=zah (by omega) (by omega)
  simp [zgz,hb,zxu]
theorem zDP (g:Geo) (a:Int):zbn [.agg [.int .i64 g.l,.int .i64 g.d,.int .i64 g.c],.int .i64 a]=some (.tup [.int .i64 (ofP g a).1,.int .i64 (ofP g a).2.1,.bool (ofP g a).2.2]):=by
  have hdk:=fun row k=>zvv g row k
  have hck:zad [.agg [.int .i64 g.l,.int .i64 g.d,.int .i64 g.c]]=some (.bool g.ok):=zix g.l g.d g.c
  rw [zmv]
  unfold zf3
  cases hk:g.ok
  · have:ofP g a=(0,0,false):=by
      unfold ofP
      rw [if_neg]
      rintro ⟨h0,h1⟩
      rw [zqp h0 h1] at hk; cases hk
    rw [hk] at hck
    simp [hck,this]
  · rw [hk] at hck
    rw [zxI,zgz]
    unfold ofP
    by_cases h0:a < 0
    · simp [hck,h0,show ¬ 0≤a by omega]
    · by_cases h1:g.cap≤a
      · simp [hck,h0,h1,show ¬ a < g.cap by omega]
      · have h0:0≤a:=by omega
        have h1:a < g.cap:=by omega
        have hd:=ok_d hk
        have hw:=zbQ hk
        have hv:=zBq hk h0
        have hr:=zm3 h0 h1
        have hca:g.cap=g.width*16:=rfl
        have hvw:a / g.c / g.width≤a / g.c:=Int.ediv_le_self _ hv.1
        have w1:IntKind.i64.wrap (a.tdiv g.c)=a / g.c:=by rw [zu0 hk h0]; exact zah (by omega) (by omega)
        have w2:IntKind.i64.wrap ((a / g.c).tdiv g.width)=a / g.c / g.width:=by rw [Int.tdiv_eq_ediv_of_nonneg hv.1]; exact zah (by omega) (by omega)
        have hm:0≤a / g.c / g.width*g.c:=Int.mul_nonneg hr.2.2.1 (by omega)
        have w3:IntKind.i64.wrap (a / g.c / g.width*g.c)=a / g.c / g.width*g.c:=zah (by omega) (by omega)
        have w4:IntKind.i64.wrap (a / g.c / g.width*g.c+a.tmod g.c)=rowG g a:=by rw [zj8 h0]; exact zah (by omega) (by omega)
        have t5:(a / g.c).tmod g.width=zcU g a:=zj8 hv.1
        simp [hck,h0,h1,show ¬ a < 0 by omega,show ¬ g.cap≤a by omega,w1,w2,w3,w4,t5,show g.c≠0 by omega,show g.width≠0 by omega,hdk]
end Wf

namespace Wf
open Go Go.RowKit Go.Proofs
set_option linter.unusedSimpArgs false
set_option linter.unusedVariables false
set_option maxHeartbeats 4000000
section
variable {B:Ben}
end
section
variable {T0 T1:Tb} {b:Nat} {idx:List Nat} {B:Ben}
end
end Wf

namespace Wf
open Go Go.RowKit
set_option linter.unusedSimpArgs false
set_option linter.unusedVariables false
theorem zDQ {c r w m row j:Int} (hc:c=1∨c=2∨c=4) (hr:r=1∨r=2∨r=4) (hcr:c≤r) (hw:2≤w∧w≤7) (j0:0≤j) (j1:j < w) (h0:0≤row) (h:row < m*r):(row / c*w+j)*c+row % c < m*(r*w):=by
  have hw:w=2∨w=3∨w=4∨w=5∨w=6∨w=7:=by omega
  rcases hc with rfl | rfl | rfl<;>rcases hr with rfl | rfl | rfl<;>first | (exfalso; omega) | (rcases hw with rfl | rfl | rfl | rfl | rfl | rfl<;>omega)
theorem zB8 {c r w m row j:Int} (hc:c=1∨c=2∨c=4) (hr:r=1∨r=2∨r=4) (hcr:c≤r) (hw:2≤w∧w≤7) (j0:0≤j) (j1:j < w) (h0:0≤row) (h:m*r≤row):m*(r*w)≤(row / c*w+j)*c+row % c:=by
  have hw:w=2∨w=3∨w=4∨w=5∨w=6∨w=7:=by omega
  rcases hc with rfl | rfl | rfl<;>rcases hr with rfl | rfl | rfl<;>first | (exfalso; omega) | (rcases hw with rfl | rfl | rfl | rfl | rfl | rfl<;>omega)
theorem zq2 {g:Geo} {a:Int} (h0:0≤a) (h1:a < g.cap):zcw g (rowG g a)=true∧0≤zcU g a∧zcU g a < g.width∧numP g (rowG g a) (zcU g a)=a:=by
  have hk:=zqp h0 h1
  have hr:=zm3 h0 h1
  have hm:=zDx hk (a / g.c)
  refine ⟨zbU.2 ⟨hk,hr.1,hr.2.1⟩,hm.1,hm.2,?_⟩
  have hw:=zbQ hk
  have hc:=(zdy.1 hk).2.2
  unfold numP rowG zcU
  generalize g.c=c at*
  generalize g.width=w at*
  have hw:w=2∨w=3∨w=4∨w=5∨w=6∨w=7:=by omega
  rcases hc with rfl | rfl | rfl<;>rcases hw with rfl | rfl | rfl | rfl | rfl | rfl<;>omega
theorem zDR {x y:Geo} {k:Int} (h0:0≤k) (h1:k < winP x y):zb7 x y k=(k*(zcj x y*y.width),(k+1)*(zcj x y*y.width)):=by
  unfold zb7; rw [if_neg (by omega)]
theorem zDS {x y:Geo} {k:Int} (h0:0≤k) (h1:k < winP x y):x.can y=true:=by
  cases h:x.can y
  · have:=(zl3 h).2; omega
  · rfl
structure Win (x y:Geo) (k:Int):Prop where
  can:x.can y=true
  xok:x.ok=true
  yok:y.ok=true
  r:zcj x y=1∨zcj x y=2∨zcj x y=4
  xc:x.c≤zcj x y
  yc:y.c≤zcj x y
  r0:0≤k*zcj x y
  r1:(k+1)*zcj x y≤16
  rr:(k+1)*zcj x y=k*zcj x y+zcj x y
  s1:(zb7 x y k).1=k*(zcj x y*y.width)
  s2:(zb7 x y k).2=(k+1)*(zcj x y*y.width)
  ss:(zb7 x y k).2=(zb7 x y k).1+zcj x y*y.width
  s0:0≤(zb7 x y k).1
  se:(zb7 x y k).2≤y.cap
  m:2≤zcj x y*y.width∧zcj x y*y.width≤28
theorem zxJ {x y:Geo} {k:Int} (h0:0≤k) (h1:k < winP x y):Win x y k:=by
  have hc:=zDS h0 h1
  obtain ⟨k1,k2,k3,k4,k5,k6⟩:=zj7.1 hc
  obtain ⟨e1,e2⟩:=zl2 hc
  obtain ⟨e3,e4,e5⟩:=zuY hc
  have hw:=zbQ k2
  have hs:=zDR h0 h1
  have hx:=(zdy.1 k1).2.2
  have hy:=(zdy.1 k2).2.2
  have rr:(k+1)*zcj x y=k*zcj x y+zcj x y:=by rw [Int.add_mul,Int.one_mul]
  have ss:(k+1)*(zcj x y*y.width)=k*(zcj x y*y.width)+zcj x y*y.width:=by rw [Int.add_mul,Int.one_mul]
  have hm:2≤zcj x y*y.width∧zcj x y*y.width≤28:=by rcases e2 with e | e | e<;>rw [e]<;>omega
  have hr0:0≤k*zcj x y:=Int.mul_nonneg h0 (by omega)
  have hr1:(k+1)*zcj x y≤16:=by
    rw [←e5]
    exact Int.mul_le_mul_of_nonneg_right (by omega) (by omega)
  refine ⟨hc,k1,k2,e2,by omega,by omega,hr0,hr1,rr,by rw [hs],by rw [hs],by rw [hs]; exact ss,by rw [hs]; exact Int.mul_nonneg h0 (by omega),?_,hm⟩
  rw [hs]
  show (k+1)*(zcj x y*y.width)≤y.width*16
  rw [←Int.mul_assoc,Int.mul_comm y.width 16]
  exact Int.mul_le_mul_of_nonneg_right hr1 (by omega)
theorem zB9 {x y:Geo} {k r j:Int} (h:Win x y k) (r0:k*zcj x y≤r) (r1:r < (k+1)*zcj x y) (j0:0≤j) (j1:j < y.width):(zb7 x y k).1≤numP y r j∧numP y r j < (zb7 x y k).2:=by
  have hw:=zbQ h.yok
  have hy:=(zdy.1 h.yok).2.2
  have:=h.r0
  rw [h.s1,h.s2]
  unfold numP
  exact ⟨zB8 hy h.r h.yc hw j0 j1 (by omega) r0,zDQ hy h.r h.yc hw j0 j1 (by omega) r1⟩
end Wf

namespace Wf
open Go Go.RowKit Go.Proofs
set_option linter.unusedSimpArgs false
set_option linter.unusedVariables false
set_option maxHeartbeats 4000000
theorem zps:[D.int IntKind.u8 (0:Int),D.int IntKind.u8 (0:Int),D.int IntKind.u8 (0:Int),D.int IntKind.u8 (0:Int),D.int IntKind.u8 (0:Int),D.int IntKind.u8 (0:Int),D.int IntKind.u8 (0:Int),D.int IntKind.u8 (0:Int),D.int IntKind.u8 (0:Int),D.int IntKind.u8 (0:Int),D.int IntKind.u8 (0:Int),D.int IntKind.u8 (0:Int),D.int IntKind.u8 (0:Int),D.int IntKind.u8 (0:Int),D.int IntKind.u8 (0:Int),D.int IntKind.u8 (0:Int),D.int IntKind.u8 (0:Int),D.int IntKind.u8 (0:Int),D.int IntKind.u8 (0:Int),D.int IntKind.u8 (0:Int),D.int IntKind.u8 (0:Int),D.int IntKind.u8 (0:Int),D.int IntKind.u8 (0:Int),D.int IntKind.u8 (0:Int),D.int IntKind.u8 (0:Int),D.int IntKind.u8 (0:Int),D.int IntKind.u8 (0:Int),D.int IntKind.u8 (0:Int),D.int IntKind.u8 (0:Int),D.int IntKind.u8 (0:Int),D.int IntKind.u8 (0:Int),D.int IntKind.u8 (0:Int)]=uL zdR:=rfl
theorem zxK (ls:List (List Int)) (l:List Int):pL (fP ls)++[D.sl .fresh (uL l)]=pL (fP (ls++[l])):=by simp [pL,fP]
section
variable (a to:Geo) (k:Int)
def mayW:Bool:=decide (0≤k) && decide (k < winP a to)
theorem window_may:zcg [.agg [.int .i64 a.l,.int .i64 a.d,.int .i64 a.c],.agg [.int .i64 to.l,.int .i64 to.d,.int .i64 to.c],.int .i64 k]=some (.bool (mayW a to k)):=by
  rw [zqN]
  unfold zkG mayW
  have hw:zaX [.agg [.int .i64 a.l,.int .i64 a.d,.int .i64 a.c],.agg [.int .i64 to.l,.int .i64 to.d,.int .i64 to.c]]=some (.int .i64 (winP a to)):=zoR a to
  by_cases h:0≤k<;>simp [h,hw]
theorem zyE:zco [.agg [.int .i64 a.l,.int .i64 a.d,.int .i64 a.c],.agg [.int .i64 to.l,.int .i64 to.d,.int .i64 to.c],.int .i64 k]=some (.tup [.int .i64 (zb7 a to k).1,.int .i64 (zb7 a to k).2]):=zAg a to k
theorem zCa:zaQ [.agg [.int .i64 a.l,.int .i64 a.d,.int .i64 a.c]]=some (.int .i64 a.cap):=zAd a
end
def Act.sec:Act→Prop
  | .w _ _ x=>Sec x
  | .f _=>True
def Ben.wOne (B:Ben) (live:List Bool) (a:Geo) (n:Int):List Int×Int:=if a.cap≤n then (zdR,0) else B.sOne live a n
def Ben.wStep (B:Ben) (live:List Bool) (a:Geo) (from':Int) (j:Nat) (acc:List (List Int)):Int×List (List Int):=
  if (B.wOne live a (from'+j)).2=0 then (0,acc++[(B.wOne live a (from'+j)).1]) else ((B.wOne live a (from'+j)).2,acc)
def Ben.wGo (B:Ben) (live:List Bool) (a to:Geo) (k:Int):Int×List (List Int):=runE (B.wStep live a (zb7 a to k).1) 0 ((zb7 a to k).2 - (zb7 a to k).1).toNat []
def Ben.wRead (B:Ben) (live:List Bool) (a to:Geo) (k:Int):List (List Int)×Int:=
  if mayW a to k=false then ([],1) else (if (B.wGo live a to k).1=0 then (B.wGo live a to k).2 else [],(B.wGo live a to k).1)
def rowW (a to:Geo) (k:Int) (data:List (List Int)) (r:Int):List (List Int):=(List.range to.width.toNat).map fun (j:Nat)=>data.getD (numP to r j - (zb7 a to k).1).toNat []
theorem zDT {B:Ben} {live:List Bool} {g:Geo} {n:Int}:(B.oneT live g n=.fresh∨B.oneT live g n=.nil)∧((B.sOne live g n).2=0→B.oneT live g n=.fresh):=by
  unfold Ben.oneT Ben.sOne
  split
  · exact ⟨.inr rfl,fun e=>absurd e (by decide)⟩
  · split
    · exact ⟨.inl rfl,fun _=>rfl⟩
    · split
      · rename_i h; exact ⟨.inr rfl,fun e=>absurd e h⟩
      · exact ⟨.inl rfl,fun _=>rfl⟩
theorem ztP {a to:Geo} {k:Int}:mayW a to k=true↔0≤k∧k < winP a to:=by unfold mayW; simp
section
variable {T0 T1:Tb} {b:Nat} {idx:List Nat} {B:Ben}
theorem zq3 (h:At T0 T1 b idx B) (hw:B.w≤1000000) (tg:Tag) (live:List Bool) (a to:Geo) (k:Int):
    za9 [.h kB b 0,.sl tg (live.map D.bool),.agg [.int .i64 a.l,.int .i64 a.d,.int .i64 a.c],.agg [.int .i64 to.l,.int .i64 to.d,.int .i64 to.c],.int .i64 k] [P0 T0 b idx B,P1 T1 idx B]=
      some (Ans.mk (.tup [.sl .own (pL (fP (B.wRead live a to k).1)),.int .i64 (B.wRead live a to k).2]) [] []):=by
  rw [zpd,zos]
  unfold zja Ben.wRead
  have hm:=window_may a to k
  cases hmw:mayW a to k
  · rw [hmw] at hm
    simp [hm]; rfl
  rw [hmw] at hm
  obtain ⟨k0,k1⟩:=ztP.1 hmw
  have hW:=zxJ k0 k1
  have hs:=zyE a to k
  have hs0:=hW.s0
  have hss:=hW.ss
  have hmm:=hW.m
  have hse:=hW.se
  have hyw:=zbQ hW.yok
  have hyc:to.cap=to.width*16:=rfl
  rw [if_neg (by simp)]
  unfold Ben.wGo
  generalize (zb7 a to k).1=fr at*
  generalize (zb7 a to k).2=en at*
  have hz:=zps
  simp only [zc4,hm,hs,zae,zcQ,Bool.not_true,zas,zeo,zq0,zaU]
  let st:Nat→List (List Int)→(Nat×List D×(Int×Int×Int×PUnit)×List D×Int×Int×PUnit)×List (List D)×List (List D)×PUnit:=fun j acc=>
    ((b,live.map D.bool,(a.l,a.d,a.c,PUnit.unit),pL (fP acc),en,fr+j,PUnit.unit),P0 T0 b idx B,P1 T1 idx B,PUnit.unit)
  have hst:st 0 []=((b,live.map D.bool,(a.l,a.d,a.c,PUnit.unit),[],en,fr,PUnit.unit),P0 T0 b idx B,P1 T1 idx B,PUnit.unit):=by
    simp only [zc4,st,Int.natCast_zero,Int.add_zero]; rfl
  rw [←hst]
  refine zz5 (B.wStep live a fr) (fun j acc=>acc.length=j) st (fun y=>some (Ans.mk (.tup [.sl .own (pL (fP (if y.1=0 then y.2 else []))),.int .i64 y.1]) [] [])) (en - fr).toNat (by omega) rfl ?_ ?_ ?_
  · rintro j acc hj hacc he
    unfold Ben.wStep at he ⊢
    split
    · simp [hacc]
    · rename_i hne; rw [if_neg hne] at he; exact absurd he hne
  · rintro again j acc hj hacc
    dsimp only [zc4,st]
    have hlt:fr+(j:Int) < en:=by omega
    have hcap:=zCa a
    have hwr:IntKind.i64.wrap (fr+(j:Int)+1)=fr+((j+1:Nat):Int):=by rw [zah (by omega) (by omega)]; omega
    unfold Ben.wStep Ben.wOne
    by_cases hc:a.cap≤fr+(j:Int)
    · have hsn:=zxK acc zdR
      simp (disch:=first | omega | assumption | (simp; done) | fail) [-List.all_eq_true,hlt,hcap,hc,hz,hsn,hwr,hacc]
    · rw [if_neg hc]
      have hone:=zyy h hw .lent live a (fr+(j:Int))
      obtain ⟨ht1,ht2⟩:=zDT (B:=B) (live:=live) (g:=a) (n:=fr+(j:Int))
      by_cases he:(B.sOne live a (fr+(j:Int))).2=0
      · rw [ht2 he,he] at hone
        have hsn:=zxK acc (B.sOne live a (fr+(j:Int))).1
        simp (disch:=first | omega | assumption | (simp; done) | fail) [-List.all_eq_true,hlt,hcap,hc,hone,hsn,hwr,hacc,zjW,he]
      · rcases ht1 with ht | ht<;>rw [ht] at hone<;>
          simp (disch:=first | omega | assumption | (simp; done) | fail) [-List.all_eq_true,hlt,hcap,hc,hone,zjW,he]<;>rfl
  · rintro again acc hacc
    dsimp only [zc4,st]
    have hfe:fr+(((en - fr).toNat:Nat):Int)=en:=by omega
    simp [-List.all_eq_true,-Int.ofNat_toNat,hfe,zf4]
end
end Wf

namespace Wf
open Go Go.RowKit Go.Proofs
set_option linter.unusedSimpArgs false
set_option linter.unusedVariables false
set_option maxHeartbeats 4000000
section
variable {B B':Ben} {live:List Bool}
def Act.d:Act→Int
  | .w d _ _=>d
  | .f d=>d
end
section
variable {a to:Geo} {k:Int} {data:List (List Int)}
structure WinD (a to:Geo) (k:Int) (data:List (List Int)):Prop where
  k0:0≤k
  k1:k < winP a to
  len:(data.length:Int)=(zb7 a to k).2 - (zb7 a to k).1
  sec:∀ x∈data,Sec x
theorem WinD.win (h:WinD a to k data):Win a to k:=zxJ h.k0 h.k1
theorem WinD.row (h:WinD a to k data) {r:Int} (r0:k*zcj a to≤r) (r1:r < (k+1)*zcj a to):Row to (rowW a to k data r)∧zcw to r=true:=by
  have hW:=h.win
  have:=hW.r0
  have:=hW.r1
  have hyw:=zbQ hW.yok
  have hl:=h.len
  refine ⟨⟨by simp [rowW]; omega,fun x hx=>?_⟩,zbU.2 ⟨hW.yok,by omega,by omega⟩⟩
  obtain ⟨j,hj,rfl⟩:=List.mem_map.1 hx
  have hj:=List.mem_range.1 hj
  obtain ⟨n0,n1⟩:=zB9 hW r0 r1 (j:=(j:Int)) (by omega) (by omega)
  exact h.sec _ (zda (by omega))
variable {B:Ben} {live:List Bool}
end
section
variable {U V:Tb} {b:Nat} {idx:List Nat} {B:Ben} {n:Nat} {K:Int}
theorem zDU (T0 T1:Tb) {n:Nat} (h0:1≤n) (h8:n≤8):∃ U V idx,
    zbo [.int .i64 n] [T0,T1]=some (Ans.mk (.tup [.h kB T0.length 0,.int .i64 0]) [] [P0 U T0.length idx (Ben.new n),P1 V idx (Ben.new n)])∧
    Run U V T0.length idx (Ben.new n) n 0∧Still (Ben.new n):=
  ⟨_,_,_,zE7 T0 T1 h0 h8,⟨zAC T0 T1 h8,by simp [Ben.new,Ben.n],rfl,rfl,Int.le_refl _⟩,zvx h8⟩
theorem zvA {live:List Bool} {a to:Geo} {k:Int} (k0:0≤k) (k1:k < winP a to) (v:Int→List Int) (hv:∀ m,(zb7 a to k).1≤m→m < (zb7 a to k).2→B.wOne live a m=(v m,0)):
    B.wRead live a to k=((List.range ((zb7 a to k).2 - (zb7 a to k).1).toNat).map fun (j:Nat)=>v ((zb7 a to k).1+j),0):=by
  have key:∀ (m j:Nat) (acc:List (List Int)),j+m=((zb7 a to k).2 - (zb7 a to k).1).toNat→runE (B.wStep live a (zb7 a to k).1) j m acc=(0,acc++(List.range' j m).map fun (j:Nat)=>v ((zb7 a to k).1+j)):=by
    intro m
    induction m with
    | zero=>intro j acc _; simp [runE]
    | succ m ih=>
      intro j acc hj
      have h1:=hv ((zb7 a to k).1+j) (by omega) (by omega)
      have:B.wStep live a (zb7 a to k).1 j acc=(0,acc++[v ((zb7 a to k).1+j)]):=by unfold Ben.wStep; rw [h1,if_pos rfl]
      unfold runE
      rw [this,if_pos rfl,ih (j+1) _ (by omega),List.range'_succ]
      simp
  unfold Ben.wRead Ben.wGo
  rw [ztP.2 ⟨k0,k1⟩,if_neg (by simp),key _ 0 [] (by omega),List.range_eq_range']
  simp
end
end Wf

namespace Wf
open Go Go.RowKit Go.Proofs
set_option linter.unusedSimpArgs false
set_option linter.unusedVariables false
set_option maxHeartbeats 4000000
theorem zDV:zbe []=some (.bool true):=by
  have e:=zjK
  rw [e,zab (by rfl)]
  unfold zeG
  obtain ⟨U,V,idx,hnew,hB,hS⟩:=zDU [] [] (n:=4) (by omega) (by omega)
  have hrd:=zq3 hB.at' (by have:=hB.w; omega) .full [true,true,true,true] ⟨5,3,1⟩ ⟨5,4,1⟩ 15
  have hx:=zvA (B:=Ben.new 4) (live:=[true,true,true,true]) (a:=⟨5,3,1⟩) (to:=⟨5,4,1⟩) (k:=15) (by omega) (by decide) (fun _=>zdR) (fun m m0 m1=>by
    have h45:(zb7 ⟨5,3,1⟩ ⟨5,4,1⟩ 15).1=45:=by decide
    rw [h45] at m0
    unfold Ben.wOne
    rw [if_pos (by show (32:Int)≤m; omega)])
  rw [hx] at hrd
  have hl:(List.range ((zb7 ⟨5,3,1⟩ ⟨5,4,1⟩ 15).2 - (zb7 ⟨5,3,1⟩ ⟨5,4,1⟩ 15).1).toNat).map (fun (j:Nat)=>zdR)=[zdR,zdR,zdR]:=by
    rw [show ((zb7 ⟨5,3,1⟩ ⟨5,4,1⟩ 15).2 - (zb7 ⟨5,3,1⟩ ⟨5,4,1⟩ 15).1).toNat=3 by decide]; rfl
  rw [hl] at hrd
  have hrd':za9 [.h kB 0 0,.sl .full [.bool true,.bool true,.bool true,.bool true],.agg [.int .i64 5,.int .i64 3,.int .i64 1],.agg [.int .i64 5,.int .i64 4,.int .i64 1],.int .i64 15] [P0 U 0 idx (Ben.new 4),P1 V idx (Ben.new 4)]=some (Ans.mk (.tup [.sl .own (pL (fP [zdR,zdR,zdR])),.int .i64 0]) [] []):=hrd
  have hp:pL (fP [zdR,zdR,zdR])=[.sl .fresh (uL zdR),.sl .fresh (uL zdR),.sl .fresh (uL zdR)]:=rfl
  rw [hp] at hrd'
  have hs:=zvl .fresh .lent zdR zdR (by decide)
  have hnew':zbo [.int .i64 4] [[],[]]=some (Ans.mk (.tup [.h kB 0 0,.int .i64 0]) [] [P0 U 0 idx (Ben.new 4),P1 V idx (Ben.new 4)]):=hnew
  simp [hnew',hrd',zjW,hs,zps]
end Wf

namespace Wf
open Go Go.RowKit Go.Proofs
set_option linter.unusedSimpArgs false
set_option linter.unusedVariables false
set_option maxHeartbeats 4000000
section
variable {B:Ben}
theorem Like.lostN {B':Ben} (h:Like B B') (live:List Bool) (g:Geo):B'.lostN live g=B.lostN live g:=by unfold Ben.lostN; simp only [h.up]
end
section
variable {U V:Tb} {b:Nat} {idx:List Nat} {B:Ben} {n:Nat} {K:Int}
end
end Wf

namespace Wf
open Go Go.RowKit Go.Proofs
set_option linter.unusedSimpArgs false
set_option linter.unusedVariables false
set_option maxHeartbeats 4000000
section
variable {T:Tb} {i:Nat} {s:DS}
end
section
variable {B:Ben}
end
section
variable {T0 T1:Tb} {b:Nat} {idx:List Nat} {B:Ben}
end
end Wf

namespace Wf
open Go Go.RowKit Go.Proofs
set_option linter.unusedSimpArgs false
set_option linter.unusedVariables false
set_option maxHeartbeats 4000000
section
variable {T0 T1:Tb} {b:Nat} {idx:List Nat} {B:Ben}
structure Aside (U V:Tb) (b:Nat) (idx:List Nat) (b2:Nat) (idx2:List Nat) (C:Ben):Prop where
  ne:b2≠b
  lt:b2 < U.length
  row:U[b2]? =some (bRow C idx2)
  nd:idx2.Nodup
  len:idx2.length=C.ds.length
  ok:C.Ok
  g:C.g=[]
  dis:∀ i∈idx2,i ∉ idx
  cells:∀ (j i:Nat) (c:List D),idx2[j]? =some i→(C.ds.map DS.cells)[j]? =some c→V[i]? =some c
theorem Aside.vlt {U V:Tb} {b:Nat} {idx:List Nat} {b2:Nat} {idx2:List Nat} {C:Ben} (h:Aside U V b idx b2 idx2 C):∀ i∈idx2,i < V.length:=fun i hi=>by
  obtain ⟨j,hj,rfl⟩:=List.mem_iff_getElem.1 hi
  have h2:=h.cells j idx2[j] ((C.ds.map DS.cells)[j]'(by rw [List.length_map,←h.len]; exact hj)) (List.getElem?_eq_getElem hj) (List.getElem?_eq_getElem _)
  exact (List.getElem?_eq_some_iff.1 h2).1
theorem Aside.at' {U V:Tb} {b:Nat} {idx:List Nat} {b2:Nat} {idx2:List Nat} {C:Ben} (h:Aside U V b idx b2 idx2 C) (B1:Ben):At (P0 U b idx B1) (P1 V idx B1) b2 idx2 C:=by
  have e0:∀ X:Tb,(P0 X b idx B1).length=X.length:=fun X=>zEP
  have e1:∀ X:Tb,(P1 X idx B1).length=X.length+B1.g.length:=fun X=>zEO
  exact ⟨by rw [e0]; exact h.lt,h.nd,fun i hi=>by rw [e1]; have:=h.vlt i hi; omega,h.len,h.ok⟩
theorem Aside.p0 {U V:Tb} {b:Nat} {idx:List Nat} {b2:Nat} {idx2:List Nat} {C:Ben} (h:Aside U V b idx b2 idx2 C) (B1:Ben):P0 (P0 U b idx B1) b2 idx2 C=P0 U b idx B1:=by
  refine zz6 ?_
  unfold P0
  rw [List.getElem?_set,if_neg (fun q=>h.ne q.symm)]
  exact h.row
theorem Aside.get {U V:Tb} {b:Nat} {idx:List Nat} {b2:Nat} {idx2:List Nat} {C:Ben} (h:Aside U V b idx b2 idx2 C) (B1:Ben) {i:Nat} (hi:i∈idx2):(P1 V idx B1)[i]? =V[i]? :=by
  unfold P1
  rw [List.getElem?_append_left (by rw [zm2]; exact h.vlt i hi),zse _ _ _ (h.dis i hi)]
theorem Aside.p1 {U V:Tb} {b:Nat} {idx:List Nat} {b2:Nat} {idx2:List Nat} {C:Ben} (h:Aside U V b idx b2 idx2 C) (B1:Ben):P1 (P1 V idx B1) idx2 C=P1 V idx B1:=by
  show putL _ _ (C.ds.map DS.cells)++C.g=_
  rw [h.g,List.append_nil]
  refine zqo fun j i c h1 h2=>?_
  rw [h.get B1 (List.mem_of_getElem? h1)]
  exact h.cells j i c h1 h2
end
section
variable {U V:Tb} {b:Nat} {idx:List Nat} {B:Ben} {n:Nat} {K:Int}
end
end Wf

namespace Wf
open Go Go.RowKit Go.Proofs
set_option linter.unusedSimpArgs false
set_option linter.unusedVariables false
set_option maxHeartbeats 4000000
section
variable {T0 T1:Tb}
end
end Wf

namespace Wf
open Go Go.RowKit Go.Proofs
set_option linter.unusedSimpArgs false
set_option linter.unusedVariables false
set_option maxHeartbeats 4000000
section
variable {U V:Tb} {b:Nat} {idx:List Nat} {B:Ben} {n:Nat} {K:Int}
end
end Wf

namespace Wf
open Go Go.RowKit Go.Proofs
set_option linter.unusedSimpArgs false
set_option linter.unusedVariables false
set_option maxHeartbeats 4000000
section
variable {U V:Tb} {b:Nat} {idx:List Nat} {B:Ben} {n:Nat} {K:Int}
end
end Wf

namespace Wf
open Go Go.RowKit Go.Proofs
set_option linter.unusedSimpArgs false
set_option linter.unusedVariables false
set_option maxHeartbeats 4000000
section
variable {U V:Tb} {b:Nat} {idx:List Nat} {B:Ben} {n:Nat} {K:Int}
end
end Wf

namespace Wf
open Go Go.RowKit Go.Proofs
set_option linter.unusedSimpArgs false
set_option linter.unusedVariables false
set_option maxHeartbeats 4000000
section
variable {B:Ben}
end
section
variable {T0 T1:Tb} {b:Nat} {idx:List Nat} {B:Ben}
end
end Wf

namespace Wf
open Go Go.RowKit Go.Proofs
set_option linter.unusedSimpArgs false
set_option linter.unusedVariables false
set_option maxHeartbeats 4000000
@[simp] theorem zry {R:Type} (a b c:D) (f:LfT [.any,.any,.any]→Option R):zau [.any,.any,.any] [a,b,c] f=f (a,b,c,()):=by rw [zcH,zcH,zcH,zdQ]
theorem zyF {R α:Type} (t0 t1 t2 t3:α) {B:(α→Option R)→α→Option R} {r:Option R} (h0:∀ again,B again t0=again t1) (h1:∀ again,B again t1=again t2) (h2:∀ again,B again t2=again t3) (h3:∀ again,B again t3=r):zb4 B t0=r:=by
  refine zcN (fun j=>if j=0 then t0 else if j=1 then t1 else if j=2 then t2 else t3) 3 (by omega) (fun again j hj=>?_) fun again=>h3 again
  rcases (show j=0∨j=1∨j=2 by omega) with rfl | rfl | rfl
  · exact h0 again
  · exact h1 again
  · exact h2 again
section
variable {B:Ben} {live:List Bool}
def zfX (g:Geo) (dat:Nat→List (List Int)) (n:Int):List Int:=if g.cap≤n then zdR else (dat (rowG g n).toNat).getD (zcU g n).toNat []
theorem zCb {g:Geo} {dat:Nat→List (List Int)} (hR:∀ r:Nat,r < 16→Row g (dat r)) {n:Int} (n0:0≤n):Sec (zfX g dat n):=by
  unfold zfX
  split
  · exact zuR
  · rename_i h
    obtain ⟨hf,c0,c1,_⟩:=zq2 n0 (show n < g.cap by omega)
    obtain ⟨hk,r0,r1⟩:=zbU.1 hf
    have hr:=hR (rowG g n).toNat (by omega)
    exact hr.sec _ (zda (by have:=hr.len; omega))
theorem zxL {g:Geo} {dat:Nat→List (List Int)} (hR:∀ r:Nat,r < 16→Row g (dat r)) (hdn:B.down=false) (hrow:∀ (r:Nat) (d:Int),r < 16→0≤d→d < g.d→B.up live d=true→B.cur d (36+r)=atR g r (dat r) d) {n:Int} (n0:0≤n):
    B.wOne live g n=(zfX g dat n,0)∨(B.wOne live g n=([],7)∧n < g.cap∧g.l - 4 < (B.lostN live g:Int)):=by
  unfold Ben.wOne zfX
  by_cases h:g.cap≤n
  · rw [if_pos h,if_pos h]; exact .inl rfl
  · rw [if_neg h,if_neg h]
    obtain ⟨hf,c0,c1,_⟩:=zq2 n0 (show n < g.cap by omega)
    obtain ⟨hk,r0,r1⟩:=zbU.1 hf
    have e:(((rowG g n).toNat:Nat):Int)=rowG g n:=by omega
    rw [zDy n0 (by omega) (hR (rowG g n).toNat (by omega)) hdn fun d d0 d1 hu=>by
      have:=hrow (rowG g n).toNat d (by omega) d0 d1 hu
      rw [e] at this; exact this]
    by_cases hc:B.up live (ofP g n).1=true∨(B.lostN live g:Int)≤g.l - 4
    · rw [if_pos hc]; exact .inl rfl
    · rw [if_neg hc]; exact .inr ⟨rfl,by omega,by omega⟩
theorem zAG {a to:Geo} {k:Int} {dat:Nat→List (List Int)} (k0:0≤k) (k1:k < winP a to) (hR:∀ r:Nat,r < 16→Row a (dat r)) (hdn:B.down=false)
    (hrow:∀ (r:Nat) (d:Int),r < 16→0≤d→d < a.d→B.up live d=true→B.cur d (36+r)=atR a r (dat r) d):
    B.wRead live a to k=((List.range ((zb7 a to k).2 - (zb7 a to k).1).toNat).map fun (j:Nat)=>zfX a dat ((zb7 a to k).1+j),0)∨
    (B.wRead live a to k=([],7)∧(zb7 a to k).1 < a.cap∧a.l - 4 < (B.lostN live a:Int)):=by
  have hW:=zxJ k0 k1
  have hs0:=hW.s0
  by_cases hall:∀ m,(zb7 a to k).1≤m→m < (zb7 a to k).2→B.wOne live a m=(zfX a dat m,0)
  · exact .inl (zvA k0 k1 (zfX a dat) hall)
  · right
    obtain ⟨m,m0,m1,hm⟩:∃ m,(zb7 a to k).1≤m∧m < (zb7 a to k).2∧B.wOne live a m≠(zfX a dat m,0):=
      Classical.byContradiction fun hq=>hall fun m m0 m1=>Classical.byContradiction fun h=>hq ⟨m,m0,m1,h⟩
    have hbad:=(zxL hR hdn hrow (n:=m) (by omega)).resolve_left hm
    refine ⟨?_,by omega,hbad.2.2⟩
    have key:(B.wGo live a to k).1=7:=by
      unfold Ben.wGo
      refine zxp (f:=B.wStep live a (zb7 a to k).1) (I:=fun j acc=>∀ i:Nat,i < j→(B.wOne live a ((zb7 a to k).1+i)).2=0) ?_ (Q:=fun y=>y.1=7) (fun i hi=>by omega) ?_ ?_
      · intro j acc hI he i hi
        by_cases e:i=j
        · subst e
          unfold Ben.wStep at he
          split at he
          · assumption
          · exact he
        · exact hI i (by omega)
      · intro acc hI
        have:=hI (m - (zb7 a to k).1).toNat (by omega)
        rw [show (zb7 a to k).1+(((m - (zb7 a to k).1).toNat:Nat):Int)=m by omega,hbad.1] at this
        exact absurd (show (7:Int)=0 from this) (by decide)
      · intro j acc hj hI he
        unfold Ben.wStep at he ⊢
        split at he
        · exact absurd rfl he
        · rename_i h0
          rw [if_neg h0]
          rcases zxL hR hdn hrow (n:=(zb7 a to k).1+j) (by omega) with h | h
          · rw [h] at h0; exact absurd rfl h0
          · rw [h.1]
    unfold Ben.wRead
    rw [ztP.2 ⟨k0,k1⟩,if_neg (by simp),key,if_neg (by decide)]
end
end Wf

namespace Wf
open Go Go.RowKit Go.Proofs
set_option linter.unusedVariables false
set_option maxRecDepth 100000
def zea:Ann:={ loops:=[(1,[.dead,.dead,.val (.cell .lent),.dead,.dead,.dead,.dead,.dead,.dead,.dead,.dead,.dead,.dead,.box true [(.int .i64),(.int .i64),(.int .i64)],.box true [(.int .i64),(.int .i64),(.int .i64)],.ptr 3840,.own 1,.dead,.dead,.dead,.dead,.dead,.dead,.dead,.dead,.dead,.dead,.dead,.dead,.dead,.dead,.dead,.dead,.dead,.dead,.dead,.dead,.dead,.dead,.dead,.dead,.dead,.dead,.dead,.dead,.dead,.dead,.dead,.dead,.dead,.val (.cell .sl),.val (.cell (.int .i64)),.val (.cell (.int .i64))]),(3,[.dead,.dead,.val (.cell .lent),.dead,.dead,.dead,.dead,.dead,.dead,.dead,.dead,.dead,.dead,.box true [(.int .i64),(.int .i64),(.int .i64)],.box true [(.int .i64),(.int .i64),(.int .i64)],.ptr 3840,.own 1,.dead,.dead,.val (.cell (.int .i64))]),(7,[.dead,.dead,.val (.cell .lent),.dead,.dead,.dead,.dead,.dead,.dead,.dead,.dead,.dead,.dead,.box true [(.int .i64),(.int .i64),(.int .i64)],.box true [(.int .i64),(.int .i64),(.int .i64)],.ptr 3840,.own 1,.dead,.dead,.val (.cell (.int .i64)),.val (.cell (.int .i64)),.dead,.own 1,.dead,.dead,.dead,.dead,.dead,.dead,.dead,.dead,.dead,.dead,.dead,.dead,.dead,.dead,.dead,.dead,.dead,.dead,.dead,.dead,.dead,.dead,.dead,.dead,.dead,.dead,.dead,.dead,.dead,.dead,.dead,.dead,.dead,.dead,.dead,.dead,.dead,.dead,.dead,.dead,.dead,.dead,.dead,.dead,.dead,.dead,.dead,.dead,.dead,.dead,.dead,.dead,.dead,.dead,.dead,.dead,.dead,.dead,.dead,.dead,.dead,.dead,.dead,.dead,.dead,.dead,.dead,.dead,.dead,.dead,.dead,.dead,.dead,.dead,.dead,.dead,.dead,.dead,.dead,.dead,.dead,.dead,.dead,.dead,.dead,.dead,.dead,.val (.cell (.int .i64)),.val (.cell (.int .i64))]),(9,[.dead,.dead,.val (.cell .lent),.dead,.dead,.dead,.dead,.dead,.dead,.dead,.dead,.dead,.dead,.box true [(.int .i64),(.int .i64),(.int .i64)],.box true [(.int .i64),(.int .i64),(.int .i64)],.ptr 3840,.own 1,.dead,.dead,.val (.cell (.int .i64)),.val (.cell (.int .i64)),.dead,.own 1,.dead,.val (.cell (.int .i64)),.val (.cell .sl),.dead,.dead,.dead,.dead,.dead,.dead,.dead,.dead,.dead,.dead,.dead,.dead,.dead,.dead,.dead,.dead,.dead,.dead,.dead,.dead,.dead,.dead,.dead,.dead,.dead,.dead,.dead,.dead,.dead,.dead,.dead,.dead,.dead,.dead,.dead,.dead,.dead,.dead,.dead,.dead,.dead,.dead,.dead,.dead,.dead,.dead,.dead,.dead,.dead,.dead,.dead,.dead,.dead,.dead,.dead,.dead,.dead,.dead,.dead,.dead,.dead,.dead,.dead,.dead,.dead,.dead,.dead,.dead,.dead,.dead,.dead,.dead,.dead,.dead,.dead,.dead,.dead,.dead,.dead,.dead,.dead,.dead,.dead,.dead,.val (.cell (.int .i64)),.val (.cell (.int .i64))]),(10,[.dead,.dead,.val (.cell .lent),.dead,.dead,.dead,.dead,.dead,.dead,.dead,.dead,.dead,.dead,.box true [(.int .i64),(.int .i64),(.int .i64)],.box true [(.int .i64),(.int .i64),(.int .i64)],.ptr 3840,.own 1,.dead,.dead,.val (.cell (.int .i64)),.val (.cell (.int .i64)),.dead,.own 1,.dead,.val (.cell (.int .i64)),.val (.cell .sl),.dead,.val (.cell (.int .i64)),.dead,.dead,.dead,.dead,.dead,.dead,.dead,.dead,.dead,.dead,.dead,.dead,.dead,.dead,.dead,.dead,.dead,.dead,.dead,.dead,.dead,.dead,.dead,.dead,.dead,.dead,.dead,.dead,.dead,.dead,.dead,.dead,.dead,.dead,.dead,.dead,.dead,.dead,.dead,.dead,.dead,.dead,.dead,.dead,.dead,.dead,.dead,.dead,.dead,.dead,.dead,.dead,.dead,.dead,.dead,.dead,.dead,.dead,.dead,.dead,.dead,.dead,.dead,.dead,.dead,.dead,.dead,.dead,.dead,.dead,.dead,.dead,.dead,.dead,.dead,.dead,.dead,.dead,.dead,.dead,.dead,.dead,.val (.cell (.int .i64)),.val (.cell (.int .i64)),.dead,.dead,.dead,.dead,.dead,.dead,.dead,.dead,.dead,.dead,.dead,.dead,.dead,.dead,.dead,.own 1,.val (.cell (.int .i64)),.val (.cell (.int .i64))]),(12,[.dead,.dead,.val (.cell .lent),.dead,.dead,.dead,.dead,.dead,.dead,.dead,.dead,.dead,.dead,.box true [(.int .i64),(.int .i64),(.int .i64)],.box true [(.int .i64),(.int .i64),(.int .i64)],.ptr 3840,.own 1,.dead,.dead,.val (.cell (.int .i64)),.val (.cell (.int .i64)),.dead,.own 1,.dead,.val (.cell (.int .i64)),.val (.cell .sl),.dead,.val (.cell (.int .i64)),.dead,.dead,.dead,.dead,.dead,.dead,.dead,.dead,.dead,.dead,.dead,.dead,.dead,.dead,.dead,.dead,.dead,.dead,.dead,.dead,.dead,.dead,.dead,.dead,.dead,.dead,.dead,.dead,.dead,.dead,.dead,.dead,.dead,.dead,.dead,.dead,.dead,.dead,.dead,.dead,.dead,.dead,.dead,.dead,.dead,.dead,.dead,.dead,.dead,.dead,.dead,.dead,.dead,.dead,.dead,.dead,.dead,.dead,.dead,.dead,.dead,.dead,.dead,.dead,.dead,.dead,.dead,.dead,.dead,.dead,.dead,.dead,.dead,.dead,.dead,.dead,.dead,.dead,.dead,.dead,.dead,.dead,.val (.cell (.int .i64)),.val (.cell (.int .i64)),.dead,.dead,.dead,.dead,.dead,.dead,.dead,.dead,.dead,.dead,.dead,.dead,.dead,.dead,.dead,.own 1,.val (.cell (.int .i64)),.val (.cell (.int .i64))])],ks:=[(3840,true),(7649,true)] }
noncomputable def zdi:List D→Option D:=denT Try.prog (zav [(ID.wattleplay_Pair,(.pure [0,0] zbv)),(ID.wattlelaw14_Filled,(.st [] [0] [(3840,true),(7649,true)] za1)),(ID.wattleplay_Live,(.pure [1] zbw)),(ID.wattlekeep_Within,(.pure [0] zac)),(ID.bench_Bench_Fail,(.st [] [0] [(3840,false),(7649,true)] za3)),(ID.wattleref01_Windows,(.pure [0] zat)),(ID.wattleref01_Span,(.pure [0,0] zbc)),(ID.window_Read,(.st [] [1,0] [(3840,false),(7649,false)] za9)),(ID.wattleref01_Capacity,(.pure [0] zar)),(ID.wattleref01_Of,(.pure [0,0,0] zbn)),(ID.wattleref01_Numbers,(.pure [1] zaO)),(ID.wattlelaw14_Data,(.pure [1] za4)),(ID.wattlekeep_Same_byte,(.pure [0] zap)),(ID.wattlelaw20_wakes,(.pure [0] zbe))]) zea [0] ID.wattlelaw20_WindowLost
theorem sound_wattlelaw20_WindowLost:za0 Try.prog ID.wattlelaw20_WindowLost (.pure [0] zdi):=zr9 (zaw [zlb,zi7,zld,zcR,zks,zeL,zkE,zjl,zeq,zmu,ziv,zkK,zer,zjJ]) zbp ⟨Try.f12,by kernel_rfl,by kernel_rfl,by kernel_rfl⟩
noncomputable def zdj (zbv:List D→Option D) (za1:List D→List Tb→Option Ans) (zbw:List D→Option D) (zac:List D→Option D) (za3:List D→List Tb→Option Ans) (zat:List D→Option D) (zbc:List D→Option D) (za9:List D→List Tb→Option Ans) (zar:List D→Option D) (zbn:List D→Option D) (zaO:List D→Option D) (za4:List D→Option D) (zap:List D→Option D) (zbe:List D→Option D) (a0:Int) (a1:Int) (a2:List D) (a3:Int) (a4:Int) (a5:Int):Option D:=
  zao (zbv [D.int IntKind.i64 a0,D.int IntKind.i64 a1]) fun r1=>
  zdG r1 fun ts2=>
  zau ([Lf.any,Lf.any]) ts2 fun c3=>
  asAgg c3.fst fun cs4=>
  zau ([Lf.int IntKind.i64,Lf.int IntKind.i64,Lf.int IntKind.i64]) cs4 fun c5=>
  asAgg c3.snd.fst fun cs6=>
  zau ([Lf.int IntKind.i64,Lf.int IntKind.i64,Lf.int IntKind.i64]) cs6 fun c7=>
  zao (za1 [D.agg [D.int IntKind.i64 c5.fst,D.int IntKind.i64 c5.snd.fst,D.int IntKind.i64 c5.snd.snd.fst],D.int IntKind.i64 c7.snd.fst,D.sl Tag.lent a2] [[],[]]) fun r8=>
  nilK r8.outs <|
  zh1 r8.tbs fun c9 q10=>
  zh1 q10 fun c11 q12=>
  nilK q12 <|
  sif (zjW r8.r=true) <|
  znN r8.r fun b13=>
  brK b13
    (some (D.bool false))
    (zao (zbw [D.int IntKind.i64 (0:Int),D.int IntKind.i64 c7.snd.fst]) fun r14=>
    zbD r14 fun l15=>
    sif (List.length l15=List.length l15) <|
    zb4 (α:=(List D×(Int×Int×Int×PUnit)×(Int×Int×Int×PUnit)×D×List D×(Tag×List D)×Int×Int×PUnit)×List (List D)×List (List D)×PUnit) (fun again16 ((l17,((i18,(i19,(i20,_))),((i21,(i22,(i23,_))),(x24,(l25,((t26,l27),(i28,(i29,_)))))))),(U30,(U31,_)))=>
      brK (decide (i29 < i28))
        (sif ((0:Int)≤i29) <|
        getK l27 (Int.toNat i29) fun d32=>
        asI IntKind.i64 d32 fun i33=>
        zao (zac [D.int IntKind.i64 i33,D.int IntKind.i64 i22]) fun r34=>
        asI IntKind.i64 r34 fun i35=>
        zao (za3 [x24,D.int IntKind.i64 i35] [U30,U31]) fun r36=>
        nilK r36.outs <|
        zh1 r36.tbs fun c37 q38=>
        nilK q38 <|
        asI IntKind.i64 r36.r fun i39=>
        letN (IntKind.wrap IntKind.i64 (i29+(1:Int))) fun n40=>
        sif (List.length l25=List.length l25) <|
        again16 (((l17,(i18,i19,i20,PUnit.unit),(i21,i22,i23,PUnit.unit),x24,l25,(t26,l27),i28,n40,PUnit.unit),U30,c37,PUnit.unit)))
        (sif (List.length l25=List.length l25) <|
        zb4 (α:=(List D×(Int×Int×Int×PUnit)×(Int×Int×Int×PUnit)×D×List D×Int×PUnit)×List (List D)×List (List D)×PUnit) (fun again41 ((l42,((i43,(i44,(i45,_))),((i46,(i47,(i48,_))),(x49,(l50,(i51,_)))))),(U52,(U53,_)))=>
          zao (zat [D.agg [D.int IntKind.i64 i43,D.int IntKind.i64 i44,D.int IntKind.i64 i45],D.agg [D.int IntKind.i64 i46,D.int IntKind.i64 i47,D.int IntKind.i64 i48]]) fun r54=>
          asI IntKind.i64 r54 fun i55=>
          brK (decide (i51 < i55))
            (zao (zbc [D.agg [D.int IntKind.i64 i43,D.int IntKind.i64 i44,D.int IntKind.i64 i45],D.agg [D.int IntKind.i64 i46,D.int IntKind.i64 i47,D.int IntKind.i64 i48],D.int IntKind.i64 i51]) fun r56=>
            zdG r56 fun ts57=>
            zau ([Lf.any,Lf.any]) ts57 fun c58=>
            asI IntKind.i64 c58.fst fun i59=>
            asI IntKind.i64 c58.snd.fst fun i60=>
            sif ((0:Nat)+List.length l50≤List.length l50) <|
            zao (za9 [x49,D.sl Tag.lent (cut (0:Nat) (List.length l50) l50),D.agg [D.int IntKind.i64 i43,D.int IntKind.i64 i44,D.int IntKind.i64 i45],D.agg [D.int IntKind.i64 i46,D.int IntKind.i64 i47,D.int IntKind.i64 i48],D.int IntKind.i64 i51] [U52,U53]) fun r61=>
            nilK r61.outs <|
            nilK r61.tbs <|
            zdG r61.r fun ts62=>
            zau ([Lf.any,Lf.any]) ts62 fun c63=>
            zbD c63.fst fun l64=>
            asI IntKind.i64 c63.snd.fst fun i65=>
            brK (i65 == (7:Int))
              (sif ((0:Nat)+List.length l64≤List.length l64) <|
              brK ((↑(List.length l64):Int) == (0:Int))
                (zao (zar [D.agg [D.int IntKind.i64 i43,D.int IntKind.i64 i44,D.int IntKind.i64 i45]]) fun r66=>
                asI IntKind.i64 r66 fun i67=>
                brK (decide (i59 < i67))
                  (letN (IntKind.wrap IntKind.i64 (i51+(1:Int))) fun n68=>
                  sif (List.length l50=List.length l50) <|
                  again41 (((l42,(i43,i44,i45,PUnit.unit),(i46,i47,i48,PUnit.unit),x49,l50,n68,PUnit.unit),U52,U53,PUnit.unit)))
                  (brK (i65 != (0:Int))
                    (some (D.bool false))
                    (sif ((0:Nat)+List.length l64≤List.length l64) <|
                    letN (IntKind.wrap IntKind.i64 (i60 - i59)) fun n69=>
                    brK ((↑(List.length l64):Int) != n69)
                      (some (D.bool false))
                      (sif ((0:Nat)+List.length l64≤List.length l64) <|
                      sif (List.length l50=List.length l50) <|
                      sif (List.length l64=List.length l64) <|
                      zb4 (α:=(List D×(Int×Int×Int×PUnit)×(Int×Int×Int×PUnit)×D×List D×Int×Int×List D×Int×Int×PUnit)×List (List D)×List (List D)×PUnit) (fun again70 ((l71,((i72,(i73,(i74,_))),((i75,(i76,(i77,_))),(x78,(l79,(i80,(i81,(l82,(i83,(i84,_)))))))))),(U85,(U86,_)))=>
                        brK (decide (i84 < i83))
                          (letN (IntKind.wrap IntKind.i64 (i81+i84)) fun n87=>
                          zao (zbn [D.agg [D.int IntKind.i64 i72,D.int IntKind.i64 i73,D.int IntKind.i64 i74],D.int IntKind.i64 n87]) fun r88=>
                          zdG r88 fun ts89=>
                          zau ([Lf.any,Lf.any,Lf.any]) ts89 fun c90=>
                          asI IntKind.i64 c90.fst fun i91=>
                          asI IntKind.i64 c90.snd.fst fun i92=>
                          asB c90.snd.snd.fst fun b93=>
                          jn (α:=(List D×(Int×Int×Int×PUnit)×(Int×Int×Int×PUnit)×D×List D×Int×Int×List D×Int×(Tag×List D)×Int×Int×PUnit)×List (List D)×List (List D)×PUnit) (fun a94=>
                              sif ((0:Int)≤a94.fst.snd.snd.snd.snd.snd.snd.snd.snd.fst) <|
                              sif (Int.toNat a94.fst.snd.snd.snd.snd.snd.snd.snd.snd.fst < List.length a94.fst.snd.snd.snd.snd.snd.snd.snd.fst) <|
                              getK a94.fst.snd.snd.snd.snd.snd.snd.snd.fst ((0:Nat)+Int.toNat a94.fst.snd.snd.snd.snd.snd.snd.snd.snd.fst) fun d95=>
                              asSl d95 fun t96 l97=>
                              zao (zap [D.sl t96 l97,D.sl a94.fst.snd.snd.snd.snd.snd.snd.snd.snd.snd.fst.fst a94.fst.snd.snd.snd.snd.snd.snd.snd.snd.snd.fst.snd]) fun r98=>
                              asB r98 fun b99=>
                              brK (!b99)
                                (some (D.bool false))
                                (letN (IntKind.wrap IntKind.i64 (a94.fst.snd.snd.snd.snd.snd.snd.snd.snd.snd.snd.snd.fst+(1:Int))) fun n100=>
                                sif (List.length a94.fst.snd.snd.snd.snd.fst=List.length a94.fst.snd.snd.snd.snd.fst) <|
                                sif (List.length a94.fst.snd.snd.snd.snd.snd.snd.snd.fst=List.length a94.fst.snd.snd.snd.snd.snd.snd.snd.fst) <|
                                again70 (((a94.fst.fst,(a94.fst.snd.fst.fst,a94.fst.snd.fst.snd.fst,a94.fst.snd.fst.snd.snd.fst,PUnit.unit),(a94.fst.snd.snd.fst.fst,a94.fst.snd.snd.fst.snd.fst,a94.fst.snd.snd.fst.snd.snd.fst,PUnit.unit),a94.fst.snd.snd.snd.fst,a94.fst.snd.snd.snd.snd.fst,a94.fst.snd.snd.snd.snd.snd.fst,a94.fst.snd.snd.snd.snd.snd.snd.fst,a94.fst.snd.snd.snd.snd.snd.snd.snd.fst,a94.fst.snd.snd.snd.snd.snd.snd.snd.snd.snd.snd.fst,n100,PUnit.unit),a94.snd.fst,a94.snd.snd.fst,PUnit.unit))))
                            (fun j101=>
                            brK b93
                              (zao (zaO [D.agg [D.int IntKind.i64 i72,D.int IntKind.i64 i73,D.int IntKind.i64 i74],D.int IntKind.i64 i92]) fun r102=>
                              zbD r102 fun l103=>
                              sif ((0:Nat)+List.length l103≤List.length l103) <|
                              sif (List.length l79=List.length l79) <|
                              sif (List.length l82=List.length l82) <|
                              sif (List.length l103=List.length l103) <|
                              zb4 (α:=(List D×(Int×Int×Int×PUnit)×(Int×Int×Int×PUnit)×D×List D×Int×Int×List D×Int×(Tag×List D)×Int×Int×Int×List D×Int×Int×PUnit)×List (List D)×List (List D)×PUnit) (fun again104 ((l105,((i106,(i107,(i108,_))),((i109,(i110,(i111,_))),(x112,(l113,(i114,(i115,(l116,(i117,((t118,l119),(i120,(i121,(i122,(l123,(i124,(i125,_)))))))))))))))),(U126,(U127,_)))=>
                                brK (decide (i125 < i124))
                                  (sif ((0:Int)≤i125) <|
                                  sif (Int.toNat i125 < List.length l123) <|
                                  getK l123 ((0:Nat)+Int.toNat i125) fun d128=>
                                  asI IntKind.i64 d128 fun i129=>
                                  letN (IntKind.wrap IntKind.i64 (i115+i117)) fun n130=>
                                  jn (α:=(List D×(Int×Int×Int×PUnit)×(Int×Int×Int×PUnit)×D×List D×Int×Int×List D×Int×(Tag×List D)×Int×Int×Int×List D×Int×Int×PUnit)×List (List D)×List (List D)×PUnit) (fun a131=>
                                      letN (IntKind.wrap IntKind.i64 (a131.fst.snd.snd.snd.snd.snd.snd.snd.snd.snd.snd.snd.snd.snd.snd.snd.fst+(1:Int))) fun n132=>
                                      sif (List.length a131.fst.snd.snd.snd.snd.fst=List.length a131.fst.snd.snd.snd.snd.fst) <|
                                      sif (List.length a131.fst.snd.snd.snd.snd.snd.snd.snd.fst=List.length a131.fst.snd.snd.snd.snd.snd.snd.snd.fst) <|
                                      sif (List.length a131.fst.snd.snd.snd.snd.snd.snd.snd.snd.snd.snd.snd.snd.snd.fst=List.length a131.fst.snd.snd.snd.snd.snd.snd.snd.snd.snd.snd.snd.snd.snd.fst) <|
                                      again104 (((a131.fst.fst,(a131.fst.snd.fst.fst,a131.fst.snd.fst.snd.fst,a131.fst.snd.fst.snd.snd.fst,PUnit.unit),(a131.fst.snd.snd.fst.fst,a131.fst.snd.snd.fst.snd.fst,a131.fst.snd.snd.fst.snd.snd.fst,PUnit.unit),a131.fst.snd.snd.snd.fst,a131.fst.snd.snd.snd.snd.fst,a131.fst.snd.snd.snd.snd.snd.fst,a131.fst.snd.snd.snd.snd.snd.snd.fst,a131.fst.snd.snd.snd.snd.snd.snd.snd.fst,a131.fst.snd.snd.snd.snd.snd.snd.snd.snd.fst,(a131.fst.snd.snd.snd.snd.snd.snd.snd.snd.snd.fst.fst,a131.fst.snd.snd.snd.snd.snd.snd.snd.snd.snd.fst.snd),a131.fst.snd.snd.snd.snd.snd.snd.snd.snd.snd.snd.fst,a131.fst.snd.snd.snd.snd.snd.snd.snd.snd.snd.snd.snd.fst,a131.fst.snd.snd.snd.snd.snd.snd.snd.snd.snd.snd.snd.snd.fst,a131.fst.snd.snd.snd.snd.snd.snd.snd.snd.snd.snd.snd.snd.snd.fst,a131.fst.snd.snd.snd.snd.snd.snd.snd.snd.snd.snd.snd.snd.snd.snd.fst,n132,PUnit.unit),a131.snd.fst,a131.snd.snd.fst,PUnit.unit)))
                                    (fun j133=>
                                    brK (i129 == n130)
                                      (zao (za4 [D.agg [D.int IntKind.i64 i106,D.int IntKind.i64 i107,D.int IntKind.i64 i108],D.int IntKind.i64 i120,D.sl Tag.lent l105]) fun r134=>
                                      zbD r134 fun l135=>
                                      sif ((0:Int)≤i125) <|
                                      sif (Int.toNat i125 < List.length l135) <|
                                      getK l135 ((0:Nat)+Int.toNat i125) fun d136=>
                                      asSl d136 fun t137 l138=>
                                      sif (List.length l113=List.length l113) <|
                                      sif (List.length l116=List.length l116) <|
                                      sif (List.length l123=List.length l123) <|
                                      j133 (((l105,(i106,i107,i108,PUnit.unit),(i109,i110,i111,PUnit.unit),x112,l113,i114,i115,l116,i117,(t137,l138),i120,i121,i122,l123,i124,i125,PUnit.unit),U126,U127,PUnit.unit)))
                                      (sif (List.length l113=List.length l113) <|
                                      sif (List.length l116=List.length l116) <|
                                      sif (List.length l123=List.length l123) <|
                                      j133 (((l105,(i106,i107,i108,PUnit.unit),(i109,i110,i111,PUnit.unit),x112,l113,i114,i115,l116,i117,(t118,l119),i120,i121,i122,l123,i124,i125,PUnit.unit),U126,U127,PUnit.unit)))))
                                  (sif (List.length l113=List.length l113) <|
                                  sif (List.length l116=List.length l116) <|
                                  j101 (((l105,(i106,i107,i108,PUnit.unit),(i109,i110,i111,PUnit.unit),x112,l113,i114,i115,l116,i117,(t118,l119),i121,i122,PUnit.unit),U126,U127,PUnit.unit))))
                                (((l71,(i72,i73,i74,PUnit.unit),(i75,i76,i77,PUnit.unit),x78,l79,i80,i81,l82,i84,(Tag.fresh,[D.int IntKind.u8 (0:Int),D.int IntKind.u8 (0:Int),D.int IntKind.u8 (0:Int),D.int IntKind.u8 (0:Int),D.int IntKind.u8 (0:Int),D.int IntKind.u8 (0:Int),D.int IntKind.u8 (0:Int),D.int IntKind.u8 (0:Int),D.int IntKind.u8 (0:Int),D.int IntKind.u8 (0:Int),D.int IntKind.u8 (0:Int),D.int IntKind.u8 (0:Int),D.int IntKind.u8 (0:Int),D.int IntKind.u8 (0:Int),D.int IntKind.u8 (0:Int),D.int IntKind.u8 (0:Int),D.int IntKind.u8 (0:Int),D.int IntKind.u8 (0:Int),D.int IntKind.u8 (0:Int),D.int IntKind.u8 (0:Int),D.int IntKind.u8 (0:Int),D.int IntKind.u8 (0:Int),D.int IntKind.u8 (0:Int),D.int IntKind.u8 (0:Int),D.int IntKind.u8 (0:Int),D.int IntKind.u8 (0:Int),D.int IntKind.u8 (0:Int),D.int IntKind.u8 (0:Int),D.int IntKind.u8 (0:Int),D.int IntKind.u8 (0:Int),D.int IntKind.u8 (0:Int),D.int IntKind.u8 (0:Int)]),i92,i83,i84,l103,(↑(List.length l103):Int),(0:Int),PUnit.unit),U85,U86,PUnit.unit)))
                              (sif (List.length l79=List.length l79) <|
                              sif (List.length l82=List.length l82) <|
                              j101 (((l71,(i72,i73,i74,PUnit.unit),(i75,i76,i77,PUnit.unit),x78,l79,i80,i81,l82,i84,(Tag.fresh,[D.int IntKind.u8 (0:Int),D.int IntKind.u8 (0:Int),D.int IntKind.u8 (0:Int),D.int IntKind.u8 (0:Int),D.int IntKind.u8 (0:Int),D.int IntKind.u8 (0:Int),D.int IntKind.u8 (0:Int),D.int IntKind.u8 (0:Int),D.int IntKind.u8 (0:Int),D.int IntKind.u8 (0:Int),D.int IntKind.u8 (0:Int),D.int IntKind.u8 (0:Int),D.int IntKind.u8 (0:Int),D.int IntKind.u8 (0:Int),D.int IntKind.u8 (0:Int),D.int IntKind.u8 (0:Int),D.int IntKind.u8 (0:Int),D.int IntKind.u8 (0:Int),D.int IntKind.u8 (0:Int),D.int IntKind.u8 (0:Int),D.int IntKind.u8 (0:Int),D.int IntKind.u8 (0:Int),D.int IntKind.u8 (0:Int),D.int IntKind.u8 (0:Int),D.int IntKind.u8 (0:Int),D.int IntKind.u8 (0:Int),D.int IntKind.u8 (0:Int),D.int IntKind.u8 (0:Int),D.int IntKind.u8 (0:Int),D.int IntKind.u8 (0:Int),D.int IntKind.u8 (0:Int),D.int IntKind.u8 (0:Int)]),i83,i84,PUnit.unit),U85,U86,PUnit.unit)))))
                          (letN (IntKind.wrap IntKind.i64 (i80+(1:Int))) fun n139=>
                          sif (List.length l79=List.length l79) <|
                          again41 (((l71,(i72,i73,i74,PUnit.unit),(i75,i76,i77,PUnit.unit),x78,l79,n139,PUnit.unit),U85,U86,PUnit.unit))))
                        (((l42,(i43,i44,i45,PUnit.unit),(i46,i47,i48,PUnit.unit),x49,l50,i51,i59,l64,(↑(List.length l64):Int),(0:Int),PUnit.unit),U52,U53,PUnit.unit))))))
                (brK (i65 != (0:Int))
                  (some (D.bool false))
                  (sif ((0:Nat)+List.length l64≤List.length l64) <|
                  letN (IntKind.wrap IntKind.i64 (i60 - i59)) fun n140=>
                  brK ((↑(List.length l64):Int) != n140)
                    (some (D.bool false))
                    (sif ((0:Nat)+List.length l64≤List.length l64) <|
                    sif (List.length l50=List.length l50) <|
                    sif (List.length l64=List.length l64) <|
                    zb4 (α:=(List D×(Int×Int×Int×PUnit)×(Int×Int×Int×PUnit)×D×List D×Int×Int×List D×Int×Int×PUnit)×List (List D)×List (List D)×PUnit) (fun again141 ((l142,((i143,(i144,(i145,_))),((i146,(i147,(i148,_))),(x149,(l150,(i151,(i152,(l153,(i154,(i155,_)))))))))),(U156,(U157,_)))=>
                      brK (decide (i155 < i154))
                        (letN (IntKind.wrap IntKind.i64 (i152+i155)) fun n158=>
                        zao (zbn [D.agg [D.int IntKind.i64 i143,D.int IntKind.i64 i144,D.int IntKind.i64 i145],D.int IntKind.i64 n158]) fun r159=>
                        zdG r159 fun ts160=>
                        zau ([Lf.any,Lf.any,Lf.any]) ts160 fun c161=>
                        asI IntKind.i64 c161.fst fun i162=>
                        asI IntKind.i64 c161.snd.fst fun i163=>
                        asB c161.snd.snd.fst fun b164=>
                        jn (α:=(List D×(Int×Int×Int×PUnit)×(Int×Int×Int×PUnit)×D×List D×Int×Int×List D×Int×(Tag×List D)×Int×Int×PUnit)×List (List D)×List (List D)×PUnit) (fun a165=>
                            sif ((0:Int)≤a165.fst.snd.snd.snd.snd.snd.snd.snd.snd.fst) <|
                            sif (Int.toNat a165.fst.snd.snd.snd.snd.snd.snd.snd.snd.fst < List.length a165.fst.snd.snd.snd.snd.snd.snd.snd.fst) <|
                            getK a165.fst.snd.snd.snd.snd.snd.snd.snd.fst ((0:Nat)+Int.toNat a165.fst.snd.snd.snd.snd.snd.snd.snd.snd.fst) fun d166=>
                            asSl d166 fun t167 l168=>
                            zao (zap [D.sl t167 l168,D.sl a165.fst.snd.snd.snd.snd.snd.snd.snd.snd.snd.fst.fst a165.fst.snd.snd.snd.snd.snd.snd.snd.snd.snd.fst.snd]) fun r169=>
                            asB r169 fun b170=>
                            brK (!b170)
                              (some (D.bool false))
                              (letN (IntKind.wrap IntKind.i64 (a165.fst.snd.snd.snd.snd.snd.snd.snd.snd.snd.snd.snd.fst+(1:Int))) fun n171=>
                              sif (List.length a165.fst.snd.snd.snd.snd.fst=List.length a165.fst.snd.snd.snd.snd.fst) <|
                              sif (List.length a165.fst.snd.snd.snd.snd.snd.snd.snd.fst=List.length a165.fst.snd.snd.snd.snd.snd.snd.snd.fst) <|
                              again141 (((a165.fst.fst,(a165.fst.snd.fst.fst,a165.fst.snd.fst.snd.fst,a165.fst.snd.fst.snd.snd.fst,PUnit.unit),(a165.fst.snd.snd.fst.fst,a165.fst.snd.snd.fst.snd.fst,a165.fst.snd.snd.fst.snd.snd.fst,PUnit.unit),a165.fst.snd.snd.snd.fst,a165.fst.snd.snd.snd.snd.fst,a165.fst.snd.snd.snd.snd.snd.fst,a165.fst.snd.snd.snd.snd.snd.snd.fst,a165.fst.snd.snd.snd.snd.snd.snd.snd.fst,a165.fst.snd.snd.snd.snd.snd.snd.snd.snd.snd.snd.fst,n171,PUnit.unit),a165.snd.fst,a165.snd.snd.fst,PUnit.unit))))
                          (fun j172=>
                          brK b164
                            (zao (zaO [D.agg [D.int IntKind.i64 i143,D.int IntKind.i64 i144,D.int IntKind.i64 i145],D.int IntKind.i64 i163]) fun r173=>
                            zbD r173 fun l174=>
                            sif ((0:Nat)+List.length l174≤List.length l174) <|
                            sif (List.length l150=List.length l150) <|
                            sif (List.length l153=List.length l153) <|
                            sif (List.length l174=List.length l174) <|
                            zb4 (α:=(List D×(Int×Int×Int×PUnit)×(Int×Int×Int×PUnit)×D×List D×Int×Int×List D×Int×(Tag×List D)×Int×Int×Int×List D×Int×Int×PUnit)×List (List D)×List (List D)×PUnit) (fun again175 ((l176,((i177,(i178,(i179,_))),((i180,(i181,(i182,_))),(x183,(l184,(i185,(i186,(l187,(i188,((t189,l190),(i191,(i192,(i193,(l194,(i195,(i196,_)))))))))))))))),(U197,(U198,_)))=>
                              brK (decide (i196 < i195))
                                (sif ((0:Int)≤i196) <|
                                sif (Int.toNat i196 < List.length l194) <|
                                getK l194 ((0:Nat)+Int.toNat i196) fun d199=>
                                asI IntKind.i64 d199 fun i200=>
                                letN (IntKind.wrap IntKind.i64 (i186+i188)) fun n201=>
                                jn (α:=(List D×(Int×Int×Int×PUnit)×(Int×Int×Int×PUnit)×D×List D×Int×Int×List D×Int×(Tag×List D)×Int×Int×Int×List D×Int×Int×PUnit)×List (List D)×List (List D)×PUnit) (fun a202=>
                                    letN (IntKind.wrap IntKind.i64 (a202.fst.snd.snd.snd.snd.snd.snd.snd.snd.snd.snd.snd.snd.snd.snd.snd.fst+(1:Int))) fun n203=>
                                    sif (List.length a202.fst.snd.snd.snd.snd.fst=List.length a202.fst.snd.snd.snd.snd.fst) <|
                                    sif (List.length a202.fst.snd.snd.snd.snd.snd.snd.snd.fst=List.length a202.fst.snd.snd.snd.snd.snd.snd.snd.fst) <|
                                    sif (List.length a202.fst.snd.snd.snd.snd.snd.snd.snd.snd.snd.snd.snd.snd.snd.fst=List.length a202.fst.snd.snd.snd.snd.snd.snd.snd.snd.snd.snd.snd.snd.snd.fst) <|
                                    again175 (((a202.fst.fst,(a202.fst.snd.fst.fst,a202.fst.snd.fst.snd.fst,a202.fst.snd.fst.snd.snd.fst,PUnit.unit),(a202.fst.snd.snd.fst.fst,a202.fst.snd.snd.fst.snd.fst,a202.fst.snd.snd.fst.snd.snd.fst,PUnit.unit),a202.fst.snd.snd.snd.fst,a202.fst.snd.snd.snd.snd.fst,a202.fst.snd.snd.snd.snd.snd.fst,a202.fst.snd.snd.snd.snd.snd.snd.fst,a202.fst.snd.snd.snd.snd.snd.snd.snd.fst,a202.fst.snd.snd.snd.snd.snd.snd.snd.snd.fst,(a202.fst.snd.snd.snd.snd.snd.snd.snd.snd.snd.fst.fst,a202.fst.snd.snd.snd.snd.snd.snd.snd.snd.snd.fst.snd),a202.fst.snd.snd.snd.snd.snd.snd.snd.snd.snd.snd.fst,a202.fst.snd.snd.snd.snd.snd.snd.snd.snd.snd.snd.snd.fst,a202.fst.snd.snd.snd.snd.snd.snd.snd.snd.snd.snd.snd.snd.fst,a202.fst.snd.snd.snd.snd.snd.snd.snd.snd.snd.snd.snd.snd.snd.fst,a202.fst.snd.snd.snd.snd.snd.snd.snd.snd.snd.snd.snd.snd.snd.snd.fst,n203,PUnit.unit),a202.snd.fst,a202.snd.snd.fst,PUnit.unit)))
                                  (fun j204=>
                                  brK (i200 == n201)
                                    (zao (za4 [D.agg [D.int IntKind.i64 i177,D.int IntKind.i64 i178,D.int IntKind.i64 i179],D.int IntKind.i64 i191,D.sl Tag.lent l176]) fun r205=>
                                    zbD r205 fun l206=>
                                    sif ((0:Int)≤i196) <|
                                    sif (Int.toNat i196 < List.length l206) <|
                                    getK l206 ((0:Nat)+Int.toNat i196) fun d207=>
                                    asSl d207 fun t208 l209=>
                                    sif (List.length l184=List.length l184) <|
                                    sif (List.length l187=List.length l187) <|
                                    sif (List.length l194=List.length l194) <|
                                    j204 (((l176,(i177,i178,i179,PUnit.unit),(i180,i181,i182,PUnit.unit),x183,l184,i185,i186,l187,i188,(t208,l209),i191,i192,i193,l194,i195,i196,PUnit.unit),U197,U198,PUnit.unit)))
                                    (sif (List.length l184=List.length l184) <|
                                    sif (List.length l187=List.length l187) <|
                                    sif (List.length l194=List.length l194) <|
                                    j204 (((l176,(i177,i178,i179,PUnit.unit),(i180,i181,i182,PUnit.unit),x183,l184,i185,i186,l187,i188,(t189,l190),i191,i192,i193,l194,i195,i196,PUnit.unit),U197,U198,PUnit.unit)))))
                                (sif (List.length l184=List.length l184) <|
                                sif (List.length l187=List.length l187) <|
                                j172 (((l176,(i177,i178,i179,PUnit.unit),(i180,i181,i182,PUnit.unit),x183,l184,i185,i186,l187,i188,(t189,l190),i192,i193,PUnit.unit),U197,U198,PUnit.unit))))
                              (((l142,(i143,i144,i145,PUnit.unit),(i146,i147,i148,PUnit.unit),x149,l150,i151,i152,l153,i155,(Tag.fresh,[D.int IntKind.u8 (0:Int),D.int IntKind.u8 (0:Int),D.int IntKind.u8 (0:Int),D.int IntKind.u8 (0:Int),D.int IntKind.u8 (0:Int),D.int IntKind.u8 (0:Int),D.int IntKind.u8 (0:Int),D.int IntKind.u8 (0:Int),D.int IntKind.u8 (0:Int),D.int IntKind.u8 (0:Int),D.int IntKind.u8 (0:Int),D.int IntKind.u8 (0:Int),D.int IntKind.u8 (0:Int),D.int IntKind.u8 (0:Int),D.int IntKind.u8 (0:Int),D.int IntKind.u8 (0:Int),D.int IntKind.u8 (0:Int),D.int IntKind.u8 (0:Int),D.int IntKind.u8 (0:Int),D.int IntKind.u8 (0:Int),D.int IntKind.u8 (0:Int),D.int IntKind.u8 (0:Int),D.int IntKind.u8 (0:Int),D.int IntKind.u8 (0:Int),D.int IntKind.u8 (0:Int),D.int IntKind.u8 (0:Int),D.int IntKind.u8 (0:Int),D.int IntKind.u8 (0:Int),D.int IntKind.u8 (0:Int),D.int IntKind.u8 (0:Int),D.int IntKind.u8 (0:Int),D.int IntKind.u8 (0:Int)]),i163,i154,i155,l174,(↑(List.length l174):Int),(0:Int),PUnit.unit),U156,U157,PUnit.unit)))
                            (sif (List.length l150=List.length l150) <|
                            sif (List.length l153=List.length l153) <|
                            j172 (((l142,(i143,i144,i145,PUnit.unit),(i146,i147,i148,PUnit.unit),x149,l150,i151,i152,l153,i155,(Tag.fresh,[D.int IntKind.u8 (0:Int),D.int IntKind.u8 (0:Int),D.int IntKind.u8 (0:Int),D.int IntKind.u8 (0:Int),D.int IntKind.u8 (0:Int),D.int IntKind.u8 (0:Int),D.int IntKind.u8 (0:Int),D.int IntKind.u8 (0:Int),D.int IntKind.u8 (0:Int),D.int IntKind.u8 (0:Int),D.int IntKind.u8 (0:Int),D.int IntKind.u8 (0:Int),D.int IntKind.u8 (0:Int),D.int IntKind.u8 (0:Int),D.int IntKind.u8 (0:Int),D.int IntKind.u8 (0:Int),D.int IntKind.u8 (0:Int),D.int IntKind.u8 (0:Int),D.int IntKind.u8 (0:Int),D.int IntKind.u8 (0:Int),D.int IntKind.u8 (0:Int),D.int IntKind.u8 (0:Int),D.int IntKind.u8 (0:Int),D.int IntKind.u8 (0:Int),D.int IntKind.u8 (0:Int),D.int IntKind.u8 (0:Int),D.int IntKind.u8 (0:Int),D.int IntKind.u8 (0:Int),D.int IntKind.u8 (0:Int),D.int IntKind.u8 (0:Int),D.int IntKind.u8 (0:Int),D.int IntKind.u8 (0:Int)]),i154,i155,PUnit.unit),U156,U157,PUnit.unit)))))
                        (letN (IntKind.wrap IntKind.i64 (i151+(1:Int))) fun n210=>
                        sif (List.length l150=List.length l150) <|
                        again41 (((l142,(i143,i144,i145,PUnit.unit),(i146,i147,i148,PUnit.unit),x149,l150,n210,PUnit.unit),U156,U157,PUnit.unit))))
                      (((l42,(i43,i44,i45,PUnit.unit),(i46,i47,i48,PUnit.unit),x49,l50,i51,i59,l64,(↑(List.length l64):Int),(0:Int),PUnit.unit),U52,U53,PUnit.unit))))))
              (brK (i65 != (0:Int))
                (some (D.bool false))
                (sif ((0:Nat)+List.length l64≤List.length l64) <|
                letN (IntKind.wrap IntKind.i64 (i60 - i59)) fun n211=>
                brK ((↑(List.length l64):Int) != n211)
                  (some (D.bool false))
                  (sif ((0:Nat)+List.length l64≤List.length l64) <|
                  sif (List.length l50=List.length l50) <|
                  sif (List.length l64=List.length l64) <|
                  zb4 (α:=(List D×(Int×Int×Int×PUnit)×(Int×Int×Int×PUnit)×D×List D×Int×Int×List D×Int×Int×PUnit)×List (List D)×List (List D)×PUnit) (fun again212 ((l213,((i214,(i215,(i216,_))),((i217,(i218,(i219,_))),(x220,(l221,(i222,(i223,(l224,(i225,(i226,_)))))))))),(U227,(U228,_)))=>
                    brK (decide (i226 < i225))
                      (letN (IntKind.wrap IntKind.i64 (i223+i226)) fun n229=>
                      zao (zbn [D.agg [D.int IntKind.i64 i214,D.int IntKind.i64 i215,D.int IntKind.i64 i216],D.int IntKind.i64 n229]) fun r230=>
                      zdG r230 fun ts231=>
                      zau ([Lf.any,Lf.any,Lf.any]) ts231 fun c232=>
                      asI IntKind.i64 c232.fst fun i233=>
                      asI IntKind.i64 c232.snd.fst fun i234=>
                      asB c232.snd.snd.fst fun b235=>
                      jn (α:=(List D×(Int×Int×Int×PUnit)×(Int×Int×Int×PUnit)×D×List D×Int×Int×List D×Int×(Tag×List D)×Int×Int×PUnit)×List (List D)×List (List D)×PUnit) (fun a236=>
                          sif ((0:Int)≤a236.fst.snd.snd.snd.snd.snd.snd.snd.snd.fst) <|
                          sif (Int.toNat a236.fst.snd.snd.snd.snd.snd.snd.snd.snd.fst < List.length a236.fst.snd.snd.snd.snd.snd.snd.snd.fst) <|
                          getK a236.fst.snd.snd.snd.snd.snd.snd.snd.fst ((0:Nat)+Int.toNat a236.fst.snd.snd.snd.snd.snd.snd.snd.snd.fst) fun d237=>
                          asSl d237 fun t238 l239=>
                          zao (zap [D.sl t238 l239,D.sl a236.fst.snd.snd.snd.snd.snd.snd.snd.snd.snd.fst.fst a236.fst.snd.snd.snd.snd.snd.snd.snd.snd.snd.fst.snd]) fun r240=>
                          asB r240 fun b241=>
                          brK (!b241)
                            (some (D.bool false))
                            (letN (IntKind.wrap IntKind.i64 (a236.fst.snd.snd.snd.snd.snd.snd.snd.snd.snd.snd.snd.fst+(1:Int))) fun n242=>
                            sif (List.length a236.fst.snd.snd.snd.snd.fst=List.length a236.fst.snd.snd.snd.snd.fst) <|
                            sif (List.length a236.fst.snd.snd.snd.snd.snd.snd.snd.fst=List.length a236.fst.snd.snd.snd.snd.snd.snd.snd.fst) <|
                            again212 (((a236.fst.fst,(a236.fst.snd.fst.fst,a236.fst.snd.fst.snd.fst,a236.fst.snd.fst.snd.snd.fst,PUnit.unit),(a236.fst.snd.snd.fst.fst,a236.fst.snd.snd.fst.snd.fst,a236.fst.snd.snd.fst.snd.snd.fst,PUnit.unit),a236.fst.snd.snd.snd.fst,a236.fst.snd.snd.snd.snd.fst,a236.fst.snd.snd.snd.snd.snd.fst,a236.fst.snd.snd.snd.snd.snd.snd.fst,a236.fst.snd.snd.snd.snd.snd.snd.snd.fst,a236.fst.snd.snd.snd.snd.snd.snd.snd.snd.snd.snd.fst,n242,PUnit.unit),a236.snd.fst,a236.snd.snd.fst,PUnit.unit))))
                        (fun j243=>
                        brK b235
                          (zao (zaO [D.agg [D.int IntKind.i64 i214,D.int IntKind.i64 i215,D.int IntKind.i64 i216],D.int IntKind.i64 i234]) fun r244=>
                          zbD r244 fun l245=>
                          sif ((0:Nat)+List.length l245≤List.length l245) <|
                          sif (List.length l221=List.length l221) <|
                          sif (List.length l224=List.length l224) <|
                          sif (List.length l245=List.length l245) <|
                          zb4 (α:=(List D×(Int×Int×Int×PUnit)×(Int×Int×Int×PUnit)×D×List D×Int×Int×List D×Int×(Tag×List D)×Int×Int×Int×List D×Int×Int×PUnit)×List (List D)×List (List D)×PUnit) (fun again246 ((l247,((i248,(i249,(i250,_))),((i251,(i252,(i253,_))),(x254,(l255,(i256,(i257,(l258,(i259,((t260,l261),(i262,(i263,(i264,(l265,(i266,(i267,_)))))))))))))))),(U268,(U269,_)))=>
                            brK (decide (i267 < i266))
                              (sif ((0:Int)≤i267) <|
                              sif (Int.toNat i267 < List.length l265) <|
                              getK l265 ((0:Nat)+Int.toNat i267) fun d270=>
                              asI IntKind.i64 d270 fun i271=>
                              letN (IntKind.wrap IntKind.i64 (i257+i259)) fun n272=>
                              jn (α:=(List D×(Int×Int×Int×PUnit)×(Int×Int×Int×PUnit)×D×List D×Int×Int×List D×Int×(Tag×List D)×Int×Int×Int×List D×Int×Int×PUnit)×List (List D)×List (List D)×PUnit) (fun a273=>
                                  letN (IntKind.wrap IntKind.i64 (a273.fst.snd.snd.snd.snd.snd.snd.snd.snd.snd.snd.snd.snd.snd.snd.snd.fst+(1:Int))) fun n274=>
                                  sif (List.length a273.fst.snd.snd.snd.snd.fst=List.length a273.fst.snd.snd.snd.snd.fst) <|
                                  sif (List.length a273.fst.snd.snd.snd.snd.snd.snd.snd.fst=List.length a273.fst.snd.snd.snd.snd.snd.snd.snd.fst) <|
                                  sif (List.length a273.fst.snd.snd.snd.snd.snd.snd.snd.snd.snd.snd.snd.snd.snd.fst=List.length a273.fst.snd.snd.snd.snd.snd.snd.snd.snd.snd.snd.snd.snd.snd.fst) <|
                                  again246 (((a273.fst.fst,(a273.fst.snd.fst.fst,a273.fst.snd.fst.snd.fst,a273.fst.snd.fst.snd.snd.fst,PUnit.unit),(a273.fst.snd.snd.fst.fst,a273.fst.snd.snd.fst.snd.fst,a273.fst.snd.snd.fst.snd.snd.fst,PUnit.unit),a273.fst.snd.snd.snd.fst,a273.fst.snd.snd.snd.snd.fst,a273.fst.snd.snd.snd.snd.snd.fst,a273.fst.snd.snd.snd.snd.snd.snd.fst,a273.fst.snd.snd.snd.snd.snd.snd.snd.fst,a273.fst.snd.snd.snd.snd.snd.snd.snd.snd.fst,(a273.fst.snd.snd.snd.snd.snd.snd.snd.snd.snd.fst.fst,a273.fst.snd.snd.snd.snd.snd.snd.snd.snd.snd.fst.snd),a273.fst.snd.snd.snd.snd.snd.snd.snd.snd.snd.snd.fst,a273.fst.snd.snd.snd.snd.snd.snd.snd.snd.snd.snd.snd.fst,a273.fst.snd.snd.snd.snd.snd.snd.snd.snd.snd.snd.snd.snd.fst,a273.fst.snd.snd.snd.snd.snd.snd.snd.snd.snd.snd.snd.snd.snd.fst,a273.fst.snd.snd.snd.snd.snd.snd.snd.snd.snd.snd.snd.snd.snd.snd.fst,n274,PUnit.unit),a273.snd.fst,a273.snd.snd.fst,PUnit.unit)))
                                (fun j275=>
                                brK (i271 == n272)
                                  (zao (za4 [D.agg [D.int IntKind.i64 i248,D.int IntKind.i64 i249,D.int IntKind.i64 i250],D.int IntKind.i64 i262,D.sl Tag.lent l247]) fun r276=>
                                  zbD r276 fun l277=>
                                  sif ((0:Int)≤i267) <|
                                  sif (Int.toNat i267 < List.length l277) <|
                                  getK l277 ((0:Nat)+Int.toNat i267) fun d278=>
                                  asSl d278 fun t279 l280=>
                                  sif (List.length l255=List.length l255) <|
                                  sif (List.length l258=List.length l258) <|
                                  sif (List.length l265=List.length l265) <|
                                  j275 (((l247,(i248,i249,i250,PUnit.unit),(i251,i252,i253,PUnit.unit),x254,l255,i256,i257,l258,i259,(t279,l280),i262,i263,i264,l265,i266,i267,PUnit.unit),U268,U269,PUnit.unit)))
                                  (sif (List.length l255=List.length l255) <|
                                  sif (List.length l258=List.length l258) <|
                                  sif (List.length l265=List.length l265) <|
                                  j275 (((l247,(i248,i249,i250,PUnit.unit),(i251,i252,i253,PUnit.unit),x254,l255,i256,i257,l258,i259,(t260,l261),i262,i263,i264,l265,i266,i267,PUnit.unit),U268,U269,PUnit.unit)))))
                              (sif (List.length l255=List.length l255) <|
                              sif (List.length l258=List.length l258) <|
                              j243 (((l247,(i248,i249,i250,PUnit.unit),(i251,i252,i253,PUnit.unit),x254,l255,i256,i257,l258,i259,(t260,l261),i263,i264,PUnit.unit),U268,U269,PUnit.unit))))
                            (((l213,(i214,i215,i216,PUnit.unit),(i217,i218,i219,PUnit.unit),x220,l221,i222,i223,l224,i226,(Tag.fresh,[D.int IntKind.u8 (0:Int),D.int IntKind.u8 (0:Int),D.int IntKind.u8 (0:Int),D.int IntKind.u8 (0:Int),D.int IntKind.u8 (0:Int),D.int IntKind.u8 (0:Int),D.int IntKind.u8 (0:Int),D.int IntKind.u8 (0:Int),D.int IntKind.u8 (0:Int),D.int IntKind.u8 (0:Int),D.int IntKind.u8 (0:Int),D.int IntKind.u8 (0:Int),D.int IntKind.u8 (0:Int),D.int IntKind.u8 (0:Int),D.int IntKind.u8 (0:Int),D.int IntKind.u8 (0:Int),D.int IntKind.u8 (0:Int),D.int IntKind.u8 (0:Int),D.int IntKind.u8 (0:Int),D.int IntKind.u8 (0:Int),D.int IntKind.u8 (0:Int),D.int IntKind.u8 (0:Int),D.int IntKind.u8 (0:Int),D.int IntKind.u8 (0:Int),D.int IntKind.u8 (0:Int),D.int IntKind.u8 (0:Int),D.int IntKind.u8 (0:Int),D.int IntKind.u8 (0:Int),D.int IntKind.u8 (0:Int),D.int IntKind.u8 (0:Int),D.int IntKind.u8 (0:Int),D.int IntKind.u8 (0:Int)]),i234,i225,i226,l245,(↑(List.length l245):Int),(0:Int),PUnit.unit),U227,U228,PUnit.unit)))
                          (sif (List.length l221=List.length l221) <|
                          sif (List.length l224=List.length l224) <|
                          j243 (((l213,(i214,i215,i216,PUnit.unit),(i217,i218,i219,PUnit.unit),x220,l221,i222,i223,l224,i226,(Tag.fresh,[D.int IntKind.u8 (0:Int),D.int IntKind.u8 (0:Int),D.int IntKind.u8 (0:Int),D.int IntKind.u8 (0:Int),D.int IntKind.u8 (0:Int),D.int IntKind.u8 (0:Int),D.int IntKind.u8 (0:Int),D.int IntKind.u8 (0:Int),D.int IntKind.u8 (0:Int),D.int IntKind.u8 (0:Int),D.int IntKind.u8 (0:Int),D.int IntKind.u8 (0:Int),D.int IntKind.u8 (0:Int),D.int IntKind.u8 (0:Int),D.int IntKind.u8 (0:Int),D.int IntKind.u8 (0:Int),D.int IntKind.u8 (0:Int),D.int IntKind.u8 (0:Int),D.int IntKind.u8 (0:Int),D.int IntKind.u8 (0:Int),D.int IntKind.u8 (0:Int),D.int IntKind.u8 (0:Int),D.int IntKind.u8 (0:Int),D.int IntKind.u8 (0:Int),D.int IntKind.u8 (0:Int),D.int IntKind.u8 (0:Int),D.int IntKind.u8 (0:Int),D.int IntKind.u8 (0:Int),D.int IntKind.u8 (0:Int),D.int IntKind.u8 (0:Int),D.int IntKind.u8 (0:Int),D.int IntKind.u8 (0:Int)]),i225,i226,PUnit.unit),U227,U228,PUnit.unit)))))
                      (letN (IntKind.wrap IntKind.i64 (i222+(1:Int))) fun n281=>
                      sif (List.length l221=List.length l221) <|
                      again41 (((l213,(i214,i215,i216,PUnit.unit),(i217,i218,i219,PUnit.unit),x220,l221,n281,PUnit.unit),U227,U228,PUnit.unit))))
                    (((l42,(i43,i44,i45,PUnit.unit),(i46,i47,i48,PUnit.unit),x49,l50,i51,i59,l64,(↑(List.length l64):Int),(0:Int),PUnit.unit),U52,U53,PUnit.unit))))))
            (zao (zbe []) fun r282=>
            asB r282 fun b283=>
            some (D.bool b283)))
          (((l17,(i18,i19,i20,PUnit.unit),(i21,i22,i23,PUnit.unit),x24,l25,(0:Int),PUnit.unit),U30,U31,PUnit.unit))))
      (((a2,(c5.fst,c5.snd.fst,c5.snd.snd.fst,PUnit.unit),(c7.fst,c7.snd.fst,c7.snd.snd.fst,PUnit.unit),r8.r,l15,(Tag.full,[D.int IntKind.i64 a3,D.int IntKind.i64 a4,D.int IntKind.i64 a5]),(↑(3:Nat):Int),(0:Int),PUnit.unit),c9,c11,PUnit.unit)))
theorem ziA (zbv:List D→Option D) (za1:List D→List Tb→Option Ans) (zbw:List D→Option D) (zac:List D→Option D) (za3:List D→List Tb→Option Ans) (zat:List D→Option D) (zbc:List D→Option D) (za9:List D→List Tb→Option Ans) (zar:List D→Option D) (zbn:List D→Option D) (zaO:List D→Option D) (za4:List D→Option D) (zap:List D→Option D) (zbe:List D→Option D) (tga2:Tag) (a0:Int) (a1:Int) (a2:List D) (a3:Int) (a4:Int) (a5:Int):denT Try.prog (zav [(ID.wattleplay_Pair,(.pure [0,0] zbv)),(ID.wattlelaw14_Filled,(.st [] [0] [(3840,true),(7649,true)] za1)),(ID.wattleplay_Live,(.pure [1] zbw)),(ID.wattlekeep_Within,(.pure [0] zac)),(ID.bench_Bench_Fail,(.st [] [0] [(3840,false),(7649,true)] za3)),(ID.wattleref01_Windows,(.pure [0] zat)),(ID.wattleref01_Span,(.pure [0,0] zbc)),(ID.window_Read,(.st [] [1,0] [(3840,false),(7649,false)] za9)),(ID.wattleref01_Capacity,(.pure [0] zar)),(ID.wattleref01_Of,(.pure [0,0,0] zbn)),(ID.wattleref01_Numbers,(.pure [1] zaO)),(ID.wattlelaw14_Data,(.pure [1] za4)),(ID.wattlekeep_Same_byte,(.pure [0] zap)),(ID.wattlelaw20_wakes,(.pure [0] zbe))]) zea [0] ID.wattlelaw20_WindowLost [.int .i64 a0,.int .i64 a1,.sl tga2 a2,.int .i64 a3,.int .i64 a4,.int .i64 a5]=sif (D.nohL [.int .i64 a0,.int .i64 a1,.sl tga2 a2,.int .i64 a3,.int .i64 a4,.int .i64 a5]=true) (zdj zbv za1 zbw zac za3 zat zbc za9 zar zbn zaO za4 zap zbe a0 a1 (D.lentL a2) a3 a4 a5):=by kernel_rfl
theorem zg7 (tga2:Tag) (a0:Int) (a1:Int) (a2:List D) (a3:Int) (a4:Int) (a5:Int):zdi [.int .i64 a0,.int .i64 a1,.sl tga2 a2,.int .i64 a3,.int .i64 a4,.int .i64 a5]=sif (D.nohL [.int .i64 a0,.int .i64 a1,.sl tga2 a2,.int .i64 a3,.int .i64 a4,.int .i64 a5]=true) (zdj zbv za1 zbw zac za3 zat zbc za9 zar zbn zaO za4 zap zbe a0 a1 (D.lentL a2) a3 a4 a5):=ziA zbv za1 zbw zac za3 zat zbc za9 zar zbn zaO za4 zap zbe tga2 a0 a1 a2 a3 a4 a5
end Wf

namespace Wf
open Go Go.RowKit Go.Proofs
set_option linter.unusedSimpArgs false
set_option linter.unusedVariables false
set_option maxHeartbeats 4000000
theorem window_lost (a0 a1:Int) (l:List Int) (a3 a4 a5:Int) (tg:Tag):zdi [.int .i64 a0,.int .i64 a1,.sl tg (intL l),.int .i64 a3,.int .i64 a4,.int .i64 a5]=some (.bool true):=by
  rw [zg7,zmV]
  rw [zab (by simp [D.nohL,D.noh,zBd])]
  unfold zdj
  obtain ⟨x,y,hpair,hcan,hx5,hy8⟩:=zAf a0 a1
  obtain ⟨k1,k2,k3,k4,k5,k6⟩:=zj7.1 hcan
  have hxd:=ok_d k1
  have hyd:=ok_d k2
  have hxw:=zbQ k1
  obtain ⟨n,hn⟩:∃ n:Nat,(n:Int)=y.d:=⟨y.d.toNat,by omega⟩
  have hfr:=zyD [] [] k1 (n:=n) (by omega) (by omega) .lent l
  simp only [List.length_nil] at hfr
  obtain ⟨U,V,idx,B0,hfil,hB0,hS0,hw0,hc0,_⟩:=hfr
  rw [hn] at hfil
  have hlive:=zB6 (d:=n) (by omega) (by omega)
  rw [hn] at hlive
  have hlv:∀ (C:Ben) (K:Int),Run U V 0 idx C n K→∀ e:Int,0≤e→C.up (List.replicate n true) e=(decide (e < n) && !C.failed e):=fun C K hC e e0=>hC.up e0
  have hll:((List.replicate n true).map D.bool).length=((List.replicate n true).map D.bool).length:=rfl
  let W:Ben→Prop:=fun B=>Run U V 0 idx B n 0∧P0 U 0 idx B0=P0 U 0 idx B∧
    ∀ (r:Nat) (d:Int),r < 16→0≤d→d < x.d→B.failed d=false→B.cur d (36+r)=atR x r (rowL x l r) d
  have hW0:W B0:=⟨hB0,rfl,fun r d r1 d0 d1 _=>by have:=hc0 d r d0 d1 (by omega) (by omega) (by omega); rw [Int.toNat_natCast] at this; exact this⟩
  have hWf:∀ (B:Ben) (a:Int),W B→∃ C,zac [.int .i64 a,.int .i64 y.d]=some (.int .i64 (a % y.d))∧za3 [.h kB 0 0,.int .i64 (a % y.d)] [P0 U 0 idx B0,P1 V idx B]=some (Ans.mk (.int .i64 0) [] [P1 V idx C])∧W C:=by
    intro B a ⟨hB,hP,hC⟩
    have d0:=Int.emod_nonneg a (show y.d≠0 by omega)
    have d1:=Int.emod_lt_of_pos a (show (0:Int) < y.d by omega)
    obtain ⟨B3,e3,q3,hB3,f3,b3,c3⟩:=hB.fail (d:=a % y.d) d0 (by omega)
    rw [←hP] at e3
    refine ⟨B3,ztJ a y.d (by omega) (by omega),e3,hB3,hP.trans q3,fun r d r1 e0 e1 hf=>?_⟩
    rw [f3 d e0 (by omega)] at hf
    rw [c3 d _ e0 (fun q=>by simp [q] at hf),hC r d r1 e0 e1 (by simp at hf; exact hf.2)]
  obtain ⟨B1,w1,e1,hW1⟩:=hWf B0 a3 hW0
  obtain ⟨B2,w2,e2,hW2⟩:=hWf B1 a4 hW1
  obtain ⟨B3,w3,e3,hW3⟩:=hWf B2 a5 hW2
  obtain ⟨hB3,hP3,hC3⟩:=hW3
  generalize hlve:List.replicate n true=live at*
  have hrow:∀ (r:Nat) (d:Int),r < 16→0≤d→d < x.d→B3.up live d=true→B3.cur d (36+r)=atR x r (rowL x l r) d:=by
    intro r d r1 d0 d1 hu
    refine hC3 r d r1 d0 d1 ?_
    rw [hlv B3 0 hB3 d d0] at hu
    simp at hu; exact hu.2
  have hR:∀ r:Nat,r < 16→Row x (rowL x l r):=fun r _=>zpr k1 l r
  have hww:=zDV
  have hwin:zat [.agg [.int .i64 x.l,.int .i64 x.d,.int .i64 x.c],.agg [.int .i64 y.l,.int .i64 y.d,.int .i64 y.c]]=some (.int .i64 (winP x y)):=zqV x y
  have hspan:∀ k,zbc [.agg [.int .i64 x.l,.int .i64 x.d,.int .i64 x.c],.agg [.int .i64 y.l,.int .i64 y.d,.int .i64 y.c],.int .i64 k]=some (.tup [.int .i64 (zb7 x y k).1,.int .i64 (zb7 x y k).2]):=fun k=>zBI x y k
  have hcap:=zxI x
  have hwn:=zuY hcan
  have hxD:x.D=.agg [.int .i64 x.l,.int .i64 x.d,.int .i64 x.c]:=rfl
  have hyD:y.D=.agg [.int .i64 y.l,.int .i64 y.d,.int .i64 y.c]:=rfl
  have hcut:∀ l:List D,cut 0 l.length l=l:=fun l=>ztK rfl
  rw [hxD,hyD] at hpair
  rw [hpair,zae,zeo,zhx,zj2,zeJ,zeJ,zeJ,zdQ,zj2,zeJ,zeJ,zeJ,zdQ]
  dsimp only
  rw [hfil,zae]
  dsimp only
  rw [zb9,zfs,zfs,zb9,zab (by rfl),zzH,zas,hlive,zae,zbL,zab rfl]
  let t:Int→Ben→(List D×(Int×Int×Int×PUnit)×(Int×Int×Int×PUnit)×D×List D×(Tag×List D)×Int×Int×PUnit)×List (List D)×List (List D)×PUnit:=fun j B=>
    ((intL l,(x.l,x.d,x.c,PUnit.unit),(y.l,y.d,y.c,PUnit.unit),.h kB 0 0,live.map D.bool,(Tag.full,[.int .i64 a3,.int .i64 a4,.int .i64 a5]),3,j,PUnit.unit),P0 U 0 idx B0,P1 V idx B,PUnit.unit)
  refine zyF (t 0 B0) (t 1 B1) (t 2 B2) (t 3 B3) ?_ ?_ ?_ ?_
  · intro again
    dsimp only [t]
    rw [zs6 (by omega),zab (by omega),show Int.toNat 0=0 from rfl,zj3,zaU,w1,zae,zaU,e1,zae]
    dsimp only
    rw [zb9,zfs,zb9,zaU,zaI,zah (by omega) (by omega),zab rfl]
    rfl
  · intro again
    dsimp only [t]
    rw [zs6 (by omega),zab (by omega),show Int.toNat 1=1 from rfl,zeX,zj3,zaU,w2,zae,zaU,e2,zae]
    dsimp only
    rw [zb9,zfs,zb9,zaU,zaI,zah (by omega) (by omega),zab rfl]
    rfl
  · intro again
    dsimp only [t]
    rw [zs6 (by omega),zab (by omega),show Int.toNat 2=2 from rfl,zeX,zeX,zj3,zaU,w3,zae,zaU,e3,zae]
    dsimp only
    rw [zb9,zfs,zb9,zaU,zaI,zah (by omega) (by omega),zab rfl]
    rfl
  · intro again
    dsimp only [t]
    rw [zuM (by omega),zab rfl,hP3]
    let s:Nat→(List D×(Int×Int×Int×PUnit)×(Int×Int×Int×PUnit)×D×List D×Int×PUnit)×List (List D)×List (List D)×PUnit:=fun k=>
      ((intL l,(x.l,x.d,x.c,PUnit.unit),(y.l,y.d,y.c,PUnit.unit),.h kB 0 0,live.map D.bool,(k:Int),PUnit.unit),P0 U 0 idx B3,P1 V idx B3,PUnit.unit)
    show zb4 _ (s 0)=_
    refine zcN s (winP x y).toNat (by omega) ?_ ?_
    · intro again k hk
      dsimp only [s]
      have k0:(0:Int)≤k:=by omega
      have k1':(k:Int) < winP x y:=by omega
      have hWn:=zxJ k0 k1'
      have hs0:=hWn.s0
      have hss:=hWn.ss
      have hm:=hWn.m
      have hse:=hWn.se
      have hyw:=zbQ k2
      have hyc:y.cap=y.width*16:=rfl
      have hrd:=zq3 hB3.at' (by have:=hB3.w; omega) .lent live x y k
      have e6:IntKind.i64.wrap ((k:Int)+1)=((k+1:Nat):Int):=by rw [zah (by omega) (by omega)]; omega
      rw [hwin,zae,zaU,zs6 k1',hspan,zae,zeo,zhx]
      dsimp only
      rw [zaU,zaU,zab (by omega),hcut]
      rcases zAG (B:=B3) (live:=live) k0 k1' hR hB3.down hrow with h | ⟨h,hcp,_⟩
      · rw [h] at hrd
        generalize hm':((zb7 x y k).2 - (zb7 x y k).1).toNat=m at*
        generalize hfr:(zb7 x y k).1=fr at*
        generalize hen:(zb7 x y k).2=en at*
        have hlen:(pL (fP ((List.range m).map fun (j:Nat)=>zfX x (rowL x l) (fr+j)))).length=m:=by simp
        rw [hrd,zae]
        dsimp only
        rw [zb9,zb9,zeo,zhx]
        dsimp only
        rw [zbL,zaU,zCl (by decide),zuN rfl,zab (by omega),zaI,zah (by omega) (by omega),hlen,zuN (by omega),zab (by omega),zab rfl,zab rfl]
        let s2:Nat→(List D×(Int×Int×Int×PUnit)×(Int×Int×Int×PUnit)×D×List D×Int×Int×List D×Int×Int×PUnit)×List (List D)×List (List D)×PUnit:=fun i=>
          ((intL l,(x.l,x.d,x.c,PUnit.unit),(y.l,y.d,y.c,PUnit.unit),.h kB 0 0,live.map D.bool,(k:Int),fr,pL (fP ((List.range m).map fun (j:Nat)=>zfX x (rowL x l) (fr+j))),(m:Int),(i:Int),PUnit.unit),P0 U 0 idx B3,P1 V idx B3,PUnit.unit)
        show zb4 _ (s2 0)=_
        refine zcN s2 m (by omega) ?_ ?_
        · intro again2 i hi
          dsimp only [s2]
          have hof:=zDP x (fr+(i:Int))
          have hsec:=zCb hR (n:=fr+(i:Int)) (by omega)
          have hg:(pL (fP ((List.range m).map fun (j:Nat)=>zfX x (rowL x l) (fr+j))))[i]? =some (.sl .fresh (uL (zfX x (rowL x l) (fr+i)))):=zdh (zvr (by rw [List.getElem?_map,List.getElem?_range hi]; rfl))
          have hsame:=zvl .fresh .fresh (zfX x (rowL x l) (fr+i)) (zfX x (rowL x l) (fr+i)) (by rw [hsec.len]; decide)
          rw [decide_eq_true rfl] at hsame
          have e7:IntKind.i64.wrap (fr+(i:Int))=fr+i:=zah (by omega) (by omega)
          have e8:IntKind.i64.wrap ((i:Int)+1)=((i+1:Nat):Int):=by rw [zah (by omega) (by omega)]; omega
          have him:(i:Int) < (m:Int):=by omega
          rw [zs6 him,zaI,e7,hof,zae,zeo,zry]
          dsimp only
          rw [zaU,zaU,zcQ]
          refine zDO (fun z=>z=((intL l,(x.l,x.d,x.c,PUnit.unit),(y.l,y.d,y.c,PUnit.unit),.h kB 0 0,live.map D.bool,(k:Int),fr,pL (fP ((List.range m).map fun (j:Nat)=>zfX x (rowL x l) (fr+j))),(i:Int),(Tag.fresh,uL (zfX x (rowL x l) (fr+i))),(m:Int),(i:Int),PUnit.unit),P0 U 0 idx B3,P1 V idx B3,PUnit.unit)) ?_ ?_
          · rintro _ rfl
            dsimp only
            rw [zab (by omega),zab (by rw [hlen]; omega),Nat.zero_add,Int.toNat_natCast,zaB hg,zex,hsame,zae,zcQ,Bool.not_true,zas,zaI,e8,zab rfl,zab rfl]
          · intro j hj
            by_cases hin:fr+(i:Int) < x.cap
            · have hob:(ofP x (fr+i)).2.2=true:=by unfold ofP; rw [if_pos ⟨by omega,hin⟩]
              have hor:(ofP x (fr+i)).2.1=rowG x (fr+i):=by unfold ofP; rw [if_pos ⟨by omega,hin⟩]
              obtain ⟨hfi,c0,c1,hnum⟩:=zq2 (show 0≤fr+(i:Int) by omega) hin
              obtain ⟨_,r0,r1⟩:=zbU.1 hfi
              have hnums:=zAs x (rowG x (fr+i))
              have hnd:zq8 x (rowG x (fr+i))=numD x (rowG x (fr+i)) x.width.toNat:=by unfold zq8; rw [if_pos hfi]
              rw [hnd] at hnums
              have hdat:=zAE x k1 (rowG x (fr+i)) r0 .lent l
              have hwt:zfX x (rowL x l) (fr+i)=(rowL x l (rowG x (fr+i)).toNat).getD (zcU x (fr+i)).toNat []:=by unfold zfX; rw [if_neg (by omega)]
              have hrl:=zpr k1 l (rowG x (fr+i)).toNat
              have hrll:=hrl.len
              have hgd0:(rowL x l (rowG x (fr+i)).toNat)[(zcU x (fr+i)).toNat]? =some (zfX x (rowL x l) (fr+i)):=by
                rw [hwt,List.getD_eq_getElem?_getD,List.getElem?_eq_getElem (by omega)]; rfl
              have hgd:(pL (fP (rowL x l (rowG x (fr+i)).toNat)))[(zcU x (fr+i)).toNat]? =some (.sl .fresh (uL (zfX x (rowL x l) (fr+i)))):=zdh (zvr hgd0)
              generalize hcol:zcU x (fr+i)=col at*
              generalize hrow':rowG x (fr+i)=ro at*
              rw [hob,zaY,hor,hnums,zae,zbL,zab (by omega),zab rfl,zab rfl,zab rfl]
              have hnl:(numD x ro x.width.toNat).length=x.width.toNat:=zho ..
              let s3:Nat→(List D×(Int×Int×Int×PUnit)×(Int×Int×Int×PUnit)×D×List D×Int×Int×List D×Int×(Tag×List D)×Int×Int×Int×List D×Int×Int×PUnit)×List (List D)×List (List D)×PUnit:=fun c=>
                ((intL l,(x.l,x.d,x.c,PUnit.unit),(y.l,y.d,y.c,PUnit.unit),.h kB 0 0,live.map D.bool,(k:Int),fr,pL (fP ((List.range m).map fun (j:Nat)=>zfX x (rowL x l) (fr+j))),(i:Int),(Tag.fresh,uL (if col < (c:Int) then zfX x (rowL x l) (fr+i) else zdR)),ro,(m:Int),(i:Int),numD x ro x.width.toNat,(x.width.toNat:Int),(c:Int),PUnit.unit),P0 U 0 idx B3,P1 V idx B3,PUnit.unit)
              have hs30:s3 0=((intL l,(x.l,x.d,x.c,PUnit.unit),(y.l,y.d,y.c,PUnit.unit),.h kB 0 0,live.map D.bool,(k:Int),fr,pL (fP ((List.range m).map fun (j:Nat)=>zfX x (rowL x l) (fr+j))),(i:Int),(Tag.fresh,uL zdR),ro,(m:Int),(i:Int),numD x ro x.width.toNat,(x.width.toNat:Int),0,PUnit.unit),P0 U 0 idx B3,P1 V idx B3,PUnit.unit):=by
                simp only [s3]; rw [if_neg (by omega)]; rfl
              rw [hnl,zps,←hs30]
              refine zcN s3 x.width.toNat (by omega) ?_ ?_
              · intro again3 c hc
                dsimp only [s3]
                have hc':(c:Int) < (x.width.toNat:Int):=by omega
                have hgn:(numD x ro x.width.toNat)[c]? =some (.int .i64 (numP x ro c)):=ztg x ro x.width.toNat (by omega)
                have e9:IntKind.i64.wrap ((c:Int)+1)=((c+1:Nat):Int):=by rw [zah (by omega) (by omega)]; omega
                rw [zs6 hc',zab (by omega),zab (by rw [hnl]; omega),Nat.zero_add,Int.toNat_natCast,zaB hgn,zaU,zaI,e7,zFG]
                by_cases hcc:(c:Int)=col
                · have hnn:numP x ro c=fr+i:=by rw [hcc]; exact hnum
                  have hgd':(pL (fP (rowL x l ro.toNat)))[c]? =some (.sl .fresh (uL (zfX x (rowL x l) (fr+i)))):=by rw [show c=col.toNat by omega]; exact hgd
                  rw [zzJ hnn,hdat,zae,zbL,zab (by omega),zab (by simp; omega),zaB hgd',zex,zab rfl,zab rfl,zab rfl]
                  dsimp only
                  rw [zaI,e9,zab rfl,zab rfl,zab rfl,if_pos (show col < ((c+1:Nat):Int) by omega)]
                · have hnn:¬ numP x ro c=fr+i:=fun q=>hcc (zAv hfi (by omega) (by omega) c0 c1 (by rw [q,hnum]))
                  rw [zCl hnn,zab rfl,zab rfl,zab rfl]
                  dsimp only
                  rw [zaI,e9,zab rfl,zab rfl,zab rfl]
                  by_cases hlt:col < (c:Int)
                  · rw [if_pos hlt,if_pos (by omega)]
                  · rw [if_neg hlt,if_neg (by omega)]
              · intro again3
                dsimp only [s3]
                rw [zuM (by omega),zab rfl,zab rfl,if_pos (by omega)]
                exact hj _ rfl
            · have hob:(ofP x (fr+i)).2.2=false:=by unfold ofP; rw [if_neg (fun q=>hin q.2)]
              have hwz:zfX x (rowL x l) (fr+i)=zdR:=by unfold zfX; rw [if_pos (by omega)]
              rw [hob,zas,zab rfl,zab rfl,zps]
              refine hj _ ?_
              rw [hwz]
        · intro again2
          dsimp only [s2]
          rw [zuM (by omega),zaI,e6,zab rfl]
      · rw [h] at hrd
        rw [hrd,zae]
        dsimp only
        rw [zb9,zb9,zeo,zhx]
        dsimp only
        rw [zbL,zaU,zzJ rfl,zab (by simp),zzJ (by simp),hcap,zae,zaU,zs6 hcp,zaI,e6,zab rfl]
    · intro again
      dsimp only [s]
      rw [hwin,zae,zaU,zuM (by omega),hww,zae,zcQ]
end Wf

