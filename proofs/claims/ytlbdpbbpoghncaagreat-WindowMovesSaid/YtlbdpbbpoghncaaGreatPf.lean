/- A part of the proof: lemmas that the law's row leans on. -/
import Derived.Test.YtlbdpbbpoghncaaGreatPe
import Derived.Test.YtlbdpbbpoghncaaGreatPd
set_option linter.all false
namespace Wf
open Go Go.RowKit Go.Proofs
set_option linter.unusedSimpArgs false
set_option linter.unusedVariables false
theorem zDe (l:List Int):(intL l).all D.free=true:=by simp [intL,D.free]
theorem zDf (l:List Int) (n:Int):intL l++[.int .i64 n]=intL (l++[n]):=by simp [intL]
def zze (ls:List (List Int)) (k:Nat):List Int:=((List.range k).filter fun i=>(ls.getD i []).isEmpty).map Int.ofNat
def miss (ls:List (List Int)):List Int:=zze ls ls.length
theorem zBf (ls:List (List Int)) (k:Nat):zze ls (k+1)=zze ls k++if (ls.getD k []).isEmpty then [(k:Int)] else []:=by
 unfold zze;rw [List.range_succ,List.filter_append,List.map_append];congr 1
 by_cases h:(ls.getD k []).isEmpty=true
 ·rw [if_pos h,List.filter_cons_of_pos (p:=fun i=>(ls.getD i []).isEmpty) h]; rfl
 ·rw [if_neg h,List.filter_cons_of_neg (p:=fun i=>(ls.getD i []).isEmpty) h]; rfl
theorem zDg (ls:List (List Int)) (k:Nat):(zze ls k).length≤k:=by
 unfold zze;rw [List.length_map]
 exact Nat.le_trans (List.length_filter_le _ _) (by simp)
theorem zpm (tg:Tag) (ps:List Part) (hn:ps.length < 100000):zbU [.sl tg (pL ps)]=some (.sl .own (intL (miss (ps.map (·.2))))):=by
 rw [zo4,zdc]
 have hm:(ps.map fun x=>(zb0 x.1 x.2,x.2)).map (·.2)=ps.map (·.2):=by rw [List.map_map]; rfl
 have hlen:(ps.map fun x=>(zb0 x.1 x.2,x.2)).length=ps.length:=by simp
 rw [←hm];rw [←hlen] at hn
 generalize (ps.map fun x=>(zb0 x.1 x.2,x.2))=rs at*
 unfold zhM
 let st:Nat→(List D×List D×Int×Int×PUnit)×PUnit:=fun k=>((intL (zze (rs.map (·.2)) k),pL rs,((pL rs).length:Int),(k:Int),PUnit.unit),PUnit.unit)
 have hst:st 0=(([],pL rs,((pL rs).length:Int),0,PUnit.unit),PUnit.unit):=rfl;rw [←hst]
 refine zcr st rs.length (by omega) ?_ ?_
 ·intro again k hk;dsimp only [st];obtain ⟨x,hx⟩:∃ x,rs[k]? =some x:=⟨_,List.getElem?_eq_getElem hk⟩
  have hd:decide ((k:Int) < ((pL rs).length:Int))=true:=by simp; omega
  have hk2:=zDg (rs.map (·.2)) k
  have hgd:(rs.map (·.2)).getD k []=x.2:=by simp [List.getD_eq_getElem?_getD,hx]
  rw [hd,zaX,zaa (by omega),zal (by simpa using zcR hx),zc0,zBf,hgd]
  by_cases he:x.2=[]
  ·have hb:(((uL x.2).length:Int) == 0)=true:=by simp [he]
   rw [hb,zaX,zaa (by rw [zgf]; omega),zaa (by rfl),zaF,zah (by omega) (by omega),zaa (by simp),zDf,he]
   rfl
  ·have hb:(((uL x.2).length:Int) == 0)=false:=by simp; omega
   have hb2:x.2.isEmpty=false:=by simp [he]
   rw [hb,zaq,zaF,zah (by omega) (by omega),zaa (by rfl),hb2]
   simp
 ·intro again;dsimp only [st]
  have hd:decide ((rs.length:Int) < ((pL rs).length:Int))=false:=by simp
  rw [hd,zaq,zaa (by rfl),zaa (zDe _)]
  simp [miss]
theorem zI6 (t:Tag) (l:List Int) (n:Int):zaI [.sl t (uL l),.at_ (.int .i64 n)]=some (.bool (!fitS n l)):=by
 rw [zpY,zdi];unfold ziw fitS
 cases l with
 | nil=>simp
 | cons a l=>
  have hd:decide (((uL (a::l)).length:Int) > 0)=true:=by simp
  rw [hd,zaX];simp [bne];rfl
theorem ztW (tg:Tag) (ps:List Part) (hn:ps.length < 100000) (n:Int):
  ∃ r,zak [.sl tg (pL ps),.fn ID.erase_fits_1 [] [.at_ (.int .i64 n)]]=some r∧∃ i:Int,r=.int .i64 i∧decide (i≥0)= !(ps.all fun x=>fitS n x.2):=by
 rw [zeO,zdc]
 have hm:(ps.all fun x=>fitS n x.2)=((ps.map fun x=>(zb0 x.1 x.2,x.2)).all fun x=>fitS n x.2):=by rw [List.all_map]; rfl
 have hlen:(ps.map fun x=>(zb0 x.1 x.2,x.2)).length=ps.length:=by simp
 rw [hm];rw [←hlen] at hn
 generalize (ps.map fun x=>(zb0 x.1 x.2,x.2))=rs at*
 unfold zcy
 refine zzY (fun a=>(rs.length:Nat) - a.1.2.2.2.1.toNat) (fun r=>∃ i:Int,r=D.int .i64 i∧decide (i≥0)= !(rs.all fun x=>fitS n x.2))
  (fun a=>∃ k:Nat,k≤rs.length∧((rs.take k).all fun x=>fitS n x.2)=true∧a=((pL rs,n,(rs.length:Int),(k:Int),PUnit.unit),PUnit.unit)) ?_ ⟨0,by omega,by simp,by rw [ztf]; rfl⟩ (by simp; omega)
 rintro again _ ⟨k,hk,he,rfl⟩ hag
 dsimp only
 by_cases hkm:k < rs.length
 ·obtain ⟨x,hx⟩:∃ x,rs[k]? =some x:=⟨_,List.getElem?_eq_getElem hkm⟩
  have hd:decide ((k:Int) < (rs.length:Int))=true:=by simp; omega
  rw [hd,zaX,zaa (by omega),zal (by simpa using zcR hx),zc0,zI6,zad,zch]
  cases hf:fitS n x.2
  ·refine ⟨_,rfl,_,rfl,?_⟩
   have:(rs.all fun x=>fitS n x.2)=false:=by
    rw [List.all_eq_false]
    exact ⟨x,List.mem_of_getElem? hx,by simp [hf]⟩
   rw [this];simp
  ·simp only [Bool.not_true,zaq,zaF]
   rw [zah (by omega) (by omega)]
   refine hag _ ⟨k+1,by omega,?_,rfl⟩ (by simp; omega)
   rw [List.take_add_one,hx,List.all_append,he];simp [hf]
 ·have hd:decide ((k:Int) < (rs.length:Int))=false:=by simp; omega
  rw [hd,zaq];refine ⟨_,rfl,_,rfl,?_⟩
  rw [List.take_of_length_le (by omega)] at he
  rw [he];rfl
theorem erase_fits (tg:Tag) (ps:List Part) (hn:ps.length < 100000) (n:Int):zcq [.int .i64 n,.sl tg (pL ps)]=some (.bool (ps.all fun x=>fitS n x.2)):=by
 rw [zsX,zdc]
 have hm:(ps.all fun x=>fitS n x.2)=((ps.map fun x=>(zb0 x.1 x.2,x.2)).all fun x=>fitS n x.2):=by rw [List.all_map]; rfl
 have hlen:(ps.map fun x=>(zb0 x.1 x.2,x.2)).length=ps.length:=by simp
 rw [hm];rw [←hlen] at hn
 generalize (ps.map fun x=>(zb0 x.1 x.2,x.2))=rs at*
 unfold zlH
 have:zag [.sl .lent (pL rs),.fn ID.erase_fits_1 [] [.at_ (.int .i64 n)]]=some (.bool (!(rs.all fun x=>fitS n x.2))):=by
  rw [zd8,zdc]
  have hm:(rs.all fun x=>fitS n x.2)=((rs.map fun x=>(zb0 x.1 x.2,x.2)).all fun x=>fitS n x.2):=by rw [List.all_map]; rfl
  have hlen:(rs.map fun x=>(zb0 x.1 x.2,x.2)).length=rs.length:=by simp
  rw [hm];rw [←hlen] at hn
  generalize (rs.map fun x=>(zb0 x.1 x.2,x.2))=qs at*
  unfold zco;obtain ⟨r,h1,i,rfl,h2⟩:=ztW .lent qs hn n;rw [h1,zad,za3,h2]
 rw [this,zad,zch,Bool.not_not]
theorem zGX {l:List D} {n:Nat} (h:l.length=n):cut 0 n l=l:=by subst h; exact zdD l
theorem erase_filled (n:Nat) (hn0:n < 100000) (tg:Tag) (ps:List Part) (hn:ps.length < 100000):zb6 [.int .i64 n,.sl tg (pL ps)]=some (.sl .own (pL (ps.map fun x=>(Tag.fresh,zle n x.2)))):=by
 rw [zp0,zdc]
 have hm:(ps.map fun x=>(Tag.fresh,zle n x.2))=((ps.map fun x=>(zb0 x.1 x.2,x.2)).map fun x=>(Tag.fresh,zle n x.2)):=by rw [List.map_map]; rfl
 have hlen:(ps.map fun x=>(zb0 x.1 x.2,x.2)).length=ps.length:=by simp
 rw [hm];rw [←hlen] at hn
 generalize (ps.map fun x=>(zb0 x.1 x.2,x.2))=rs at*
 unfold zix
 let st:Nat→(Int×List D×List D×Int×Int×PUnit)×PUnit:=fun k=>(((n:Int),pL ((rs.take k).map fun x=>(Tag.fresh,zle n x.2)),pL rs,((pL rs).length:Int),(k:Int),PUnit.unit),PUnit.unit)
 have hst:st 0=(((n:Int),[],pL rs,((pL rs).length:Int),0,PUnit.unit),PUnit.unit):=rfl;rw [←hst]
 refine zcr st rs.length (by omega) ?_ ?_
 ·intro again k hk;dsimp only [st];obtain ⟨x,hx⟩:∃ x,rs[k]? =some x:=⟨_,List.getElem?_eq_getElem hk⟩
  have hd:decide ((k:Int) < ((pL rs).length:Int))=true:=by simp; omega
  have hfill:([]++List.take (Int.toNat (n:Int)) (uL x.2)++List.drop ((0:Nat)+List.length (List.take (Int.toNat (n:Int)) (uL x.2))) (List.replicate (Int.toNat (n:Int)) (D.int IntKind.u8 (0:Int))))=uL (zle n x.2):=by
   rw [Int.toNat_natCast,zyP,zsw,zyQ,Nat.zero_add,zdz,List.nil_append,←zCF]; rfl
  rw [hd,zaX,zaa (by omega),zal (by simpa using zcR hx),zc0,zaa (by omega),zaa (by rfl),zaa (by omega),zaa (by omega),zaa (by simp),zaa (zz4 _),hfill,zaa (by simp [ziY]),zaa (by simp; omega),zaa (by rfl),
   zaF,zah (by omega) (by omega),zaa (by simp),zGX (by simp [ziY]),zDb]
  have:(rs.take (k+1)).map (fun x=>(Tag.fresh,zle n x.2))=(rs.take k).map (fun x=>(Tag.fresh,zle n x.2))++[(Tag.fresh,zle n x.2)]:=by rw [List.take_add_one,hx]; simp
  rw [this];rfl
 ·intro again;dsimp only [st]
  have hd:decide ((rs.length:Int) < ((pL rs).length:Int))=false:=by simp
  rw [hd,zaq,zaa (by rfl),List.take_length,zaa (zl2 (by intro x hx; obtain ⟨y,hy,rfl⟩:=List.mem_map.1 hx; rfl))]
def fP (ls:List (List Int)):List Part:=ls.map fun l=>(Tag.fresh,l)
@[simp] theorem zDh (ls:List (List Int)):(fP ls).length=ls.length:=by simp [fP]
theorem zxZ (ls:List (List Int)):(fP ls).map (·.2)=ls:=by
 unfold fP;rw [List.map_map];exact List.map_id ls
theorem zfJ (ls:List (List Int)):(pL (fP ls)).all D.free=true:=zl2 (by intro x hx; obtain ⟨y,_,rfl⟩:=List.mem_map.1 hx; rfl)
theorem zIl (ls:List (List Int)) (i:Nat) (l:List Int):(fP ls).set i (Tag.fresh,l)=fP (ls.set i l):=by simp [fP,List.map_set]
theorem zuR {ls:List (List Int)} {k:Nat} {l:List Int} (h:ls[k]? =some l):(fP ls)[k]? =some (Tag.fresh,l):=by simp [fP,h]
theorem zEY (ps:List Part):(ps.map fun x=>(Tag.fresh,zle 32 x.2))=fP (zcN (ps.map (·.2))):=by simp [fP,zcN]
theorem zEZ (ls:List (List Int)):miss ls=(zdv ls).map Int.ofNat:=rfl
theorem zBg (k:Nat) (hk:k < 100000):za0 [.int .i64 k]=some (.int .u8 (pow8 (k % 255))):=by
 have h:=zxY (k % 255) (Nat.mod_lt _ (by omega))
 rw [zs0] at h ⊢;unfold zrr at h ⊢
 have e1:Int.tmod (k:Int) 255=((k % 255:Nat):Int):=by rw [Int.tmod_eq_emod_of_nonneg (by omega)]; omega
 have e2:Int.tmod ((k % 255:Nat):Int) 255=((k % 255:Nat):Int):=by rw [Int.tmod_eq_emod_of_nonneg (by omega)]; omega
 rw [e1];rw [e2] at h;exact h
theorem zIm {a:Nat} (ha:a < 256):zeW [.int .u8 a]=some (.int .i64 (if logN a=255 then -1 else (logN a:Int))):=by
 rw [zy6];unfold zv7
 refine zfZ (a:=(((a:Int),(1:Int),(0:Int),PUnit.unit),PUnit.unit)) (fun x=>(255 - x.1.2.2.1).toNat) (fun x=>some (D.int .i64 (if logF a (255 - x.1.2.2.1.toNat) x.1.2.1.toNat x.1.2.2.1.toNat=255 then -1 else (logF a (255 - x.1.2.2.1.toNat) x.1.2.1.toNat x.1.2.2.1.toNat:Int))))
  (fun x=>∃ n y:Nat,n≤255∧y < 256∧x=(((a:Int),(y:Int),(n:Int),PUnit.unit),PUnit.unit)) ?_ ⟨0,1,by omega,by omega,rfl⟩ (by simp)
 rintro again _ ⟨n,y,hn,hy,rfl⟩ hag
 dsimp only;rw [Int.toNat_natCast,Int.toNat_natCast]
 by_cases h:n < 255
 ·have e:255 - n=(255 - (n+1))+1:=by omega
  have hd:decide ((n:Int) < 255)=true:=by simp; omega
  rw [hd,zaX,e]
  by_cases hya:y=a
  ·subst hya
   have:logF y (255 - (n+1)+1) y n=n:=by unfold logF; rw [if_pos rfl]
   rw [this,if_neg (by omega)]
   simp
  ·have hb:((y:Int) == (a:Int))=false:=by simp; omega
   have:logF a (255 - (n+1)+1) y n=logF a (255 - (n+1)) (dblN y) (n+1):=by rw [logF,if_neg hya]
   have hh:=hag (((a:Int),((dblN y:Nat):Int),((n+1:Nat):Int),PUnit.unit),PUnit.unit) ⟨n+1,dblN y,by omega,zlc hy,rfl⟩ (by dsimp only; omega)
   dsimp only at hh;rw [Int.toNat_natCast,Int.toNat_natCast] at hh
   rw [hb,zaq,gf_double,zad,za3,zaF,zah (by omega) (by omega),zyG hy,this]
   exact hh
 ·have:n=255:=by omega
  subst this;simp [logF]
theorem zFM {a:Int} (ha:Byt a):zcW [.int .u8 a]=some (.int .u8 (inv8 a)):=by
 obtain ⟨m,hm,rfl⟩:=zeZ ha;rw [zy7];unfold zv8 inv8 invN;rw [Int.toNat_natCast]
 by_cases h0:m=0
 ·subst h0; simp
 ·obtain ⟨h1,h2⟩:=zGF m hm h0
  have hb:((m:Int) == 0)=false:=by simp; omega
  rw [hb,zaq,zIm hm,zad,za3,if_neg (by omega),if_neg h0,zaF,zah (by omega) (by omega),show (255:Int) - (logN m:Int)=((255 - logN m:Nat):Int) by omega,zBg _ (by omega),zad,za3,zmi]
section
variable {ps:List Part} (h1:0 < ps.length) (h8:ps.length≤8) (hs:∀ x∈ps,x.2.length=32)
include h1 h8 hs
theorem by_q (tq tg:Tag) {q:List Int} (hq:q.length=32) {k:Nat} (hk:k < 8):
  zcJ [.sl tq (uL q),.sl tg (pL ps),.int .i64 k]=some (.sl .own (uL (byQ q (ps.map (·.2)) k))):=by
 rw [ztP,zdi,zdc]
 have hm:(ps.map fun x=>(zb0 x.1 x.2,x.2)).map (·.2)=ps.map (·.2):=by rw [List.map_map]; rfl
 have hlen:(ps.map fun x=>(zb0 x.1 x.2,x.2)).length=ps.length:=by simp
 have hs':∀ x∈(ps.map fun x=>(zb0 x.1 x.2,x.2)),x.2.length=32:=by intro x hx; obtain ⟨y,hy,rfl⟩:=List.mem_map.1 hx; exact hs y hy
 rw [←hm];rw [←hlen] at h1 h8
 generalize (ps.map fun x=>(zb0 x.1 x.2,x.2))=rs at*
 unfold znX
 have hQ:=zDd (n:=32) .lent (ps:=rs) (by omega) h1 (by omega) hs'
 have hr:Byt (inv8 (pow8 k)):=zz3 _
 have ha:(addL q (sumQ 32 (rs.map (·.2)))).length < 100000:=by unfold addL; split<;>simp<;>omega
 simp (disch:=first | omega | assumption | (simp; done) | fail) [-List.all_eq_true,hQ,zii _ _ _ _ (show q.length < 100000 by omega),zxY k (by omega),zFM (zzZ k),zjt _ _ ha hr.1 hr.2]
 rfl
theorem zIn (tp tq tg:Tag) {p q:List Int} (hp:p.length=32) (hq:q.length=32) {j k:Nat} (hj:j < 8) (hk:k < 8):
  zc1 [.sl tp (uL p),.sl tq (uL q),.sl tg (pL ps),.int .i64 j,.int .i64 k]=some (.tup [.sl .own (uL (twoX p q (ps.map (·.2)) j k)),.sl .own (uL (twoY p q (ps.map (·.2)) j k))]):=by
 rw [ztN,zdi,zdi,zdc]
 have hm:(ps.map fun x=>(zb0 x.1 x.2,x.2)).map (·.2)=ps.map (·.2):=by rw [List.map_map]; rfl
 have hlen:(ps.map fun x=>(zb0 x.1 x.2,x.2)).length=ps.length:=by simp
 have hs':∀ x∈(ps.map fun x=>(zb0 x.1 x.2,x.2)),x.2.length=32:=by intro x hx; obtain ⟨y,hy,rfl⟩:=List.mem_map.1 hx; exact hs y hy
 rw [←hm];rw [←hlen] at h1 h8
 generalize (ps.map fun x=>(zb0 x.1 x.2,x.2))=rs at*
 unfold znW
 have hQ:=zDd (n:=32) .lent (ps:=rs) (by omega) h1 (by omega) hs'
 have hP:=zDc (n:=32) .lent (ps:=rs) (by omega) h1 (by omega) hs'
 have hr:Byt (inv8 (xor8 (pow8 j) (pow8 k))):=zz3 _
 have addl:∀ {a b:List Int},a.length≤32→(addL a b).length≤32:=by intro a b h; unfold addL; split<;>simp<;>omega
 have h2:(addL p (sumP 32 (rs.map (·.2)))).length≤32:=addl (by omega)
 have h3:(addL q (sumQ 32 (rs.map (·.2)))).length≤32:=addl (by omega)
 have h4:(addL (addL q (sumQ 32 (rs.map (·.2)))) ((addL p (sumP 32 (rs.map (·.2)))).map (mul8 · (pow8 k)))).length≤32:=addl h3
 simp (disch:=first | omega | assumption | (simp; done) | fail) [-List.all_eq_true,hQ,hP,zii _ _ _ _ (show q.length < 100000 by omega),zii _ _ _ _ (show p.length < 100000 by omega),zxY j (by omega),zxY k (by omega),zFM (zox _ _),
  zjt _ _ (show (addL p (sumP 32 (rs.map (·.2)))).length < 100000 by omega) (ziX k).1 (ziX k).2,zii _ _ _ _ (show (addL q (sumQ 32 (rs.map (·.2)))).length < 100000 by omega),zii _ _ _ _ (show (addL p (sumP 32 (rs.map (·.2)))).length < 100000 by omega),
  zjt _ _ (show (addL (addL q (sumQ 32 (rs.map (·.2)))) ((addL p (sumP 32 (rs.map (·.2)))).map (mul8 · (pow8 k)))).length < 100000 by omega) hr.1 hr.2]
 exact ⟨rfl,rfl⟩
end
end Wf

namespace Wf
open Go Go.RowKit Go.Proofs
set_option linter.unusedSimpArgs false
set_option linter.unusedVariables false
set_option maxHeartbeats 4000000
def solD:Option (List (List Int))→D
 | none=>.tup [.sl .own [],.bool false]
 | some o=>.tup [.sl .own (pL (fP o)),.bool true]
theorem pLs (ls:List (List Int)) (i:Nat) (l:List Int):(pL (fP ls)).set i (.sl .fresh (uL l))=pL (fP (ls.set i l)):=by rw [zqP,zIl]
theorem ztg {ls:List (List Int)} {i:Nat} (h:i < ls.length):(pL (fP ls))[i]? =some (.sl .fresh (uL (ls.getD i []))):=by
 have e:ls[i]? =some (ls.getD i []):=by rw [List.getD_eq_getElem?_getD,List.getElem?_eq_getElem h]; rfl
 exact zcR (zuR e)
theorem zE0 (tp tq tg:Tag) (p q:List Int) {ps:List Part} (hn:ps.length < 100000):
  zcj [.int .i64 32,.sl tp (uL p),.sl tq (uL q),.sl tg (pL ps)]=some (solD (zoA p q (ps.map (·.2)))):=by
 rw [zq7,zdi,zdi,zdc]
 have hm:(ps.map fun x=>(zb0 x.1 x.2,x.2)).map (·.2)=ps.map (·.2):=by rw [List.map_map]; rfl
 have hlen:(ps.map fun x=>(zb0 x.1 x.2,x.2)).length=ps.length:=by simp
 rw [←hm];rw [←hlen] at hn
 generalize (ps.map fun x=>(zb0 x.1 x.2,x.2))=rs at*
 clear hm hlen ps;unfold zj2 zoA;have hmi:=zpm .lent rs hn;rw [zEZ] at hmi
 have hpq:zbU [.sl .full [.sl .lent (uL p),.sl .lent (uL q)]]=some (.sl .own (intL ((zdv [p,q]).map Int.ofNat))):=zpm .full [(Tag.lent,p),(Tag.lent,q)] (by simp)
 have hfi:=erase_fits .lent rs hn 32
 have hfa:(rs.all fun x=>fitS 32 x.2)=(rs.map (·.2)).all (fitS 32):=by rw [List.all_map]; rfl
 rw [hfa] at hfi
 have hfpq:zcq [.int .i64 32,.sl .full [.sl .lent (uL p),.sl .lent (uL q)]]=some (.bool ([p,q].all (fitS 32))):=erase_fits .full [(Tag.lent,p),(Tag.lent,q)] (by simp) 32
 have hfl:zb6 [.int .i64 32,.sl .lent (pL rs)]=some (.sl .own (pL (fP (zcN (rs.map (·.2)))))):=by
  have:=erase_filled 32 (by omega) .lent rs hn
  rw [zEY] at this;exact this
 have hl:(rs.map (·.2)).length=rs.length:=by simp
 generalize hls:rs.map (·.2)=ls at*
 have hfill:(zcN ls).length=rs.length:=by rw [zda,hl]
 by_cases c1:rs.length < 1
 ·rw [if_pos (.inl (by omega))]
  simp (disch:=first | omega | assumption | (simp; done) | fail) [-List.all_eq_true,hmi,c1,solD]
 by_cases c2:8 < rs.length
 ·rw [if_pos (.inr (.inl (by omega)))]
  simp (disch:=first | omega | assumption | (simp; done) | fail) [-List.all_eq_true,hmi,c1,c2,solD]
 cases c3:ls.all (fitS 32)
 ·rw [if_pos (.inr (.inr (.inl rfl)))]
  simp (disch:=first | omega | assumption | (simp; done) | fail) [-List.all_eq_true,hmi,c1,c2,hfi,c3,solD]
 cases c4:[p,q].all (fitS 32)
 ·rw [if_pos (.inr (.inr (.inr rfl)))]
  simp (disch:=first | omega | assumption | (simp; done) | fail) [-List.all_eq_true,-List.all_cons,hmi,c1,c2,hfi,c3,hfpq,c4,solD]
 rw [if_neg (by rintro (e | e | e | e)<;>first | omega | cases e)]
 have hml:(zdv ls).length≤8:=by
  have:(zdv ls).length≤ls.length:=by unfold zdv; exact Nat.le_trans (List.length_filter_le _ _) (by simp)
  omega
 have hml2:=zyO p q
 have hml3:(zdv [p,q]).length≤2:=by rw [hml2]; split<;>split<;>omega
 by_cases c5:2 < (zdv ls).length+(zdv [p,q]).length
 ·rw [if_pos c5]
  simp (disch:=first | omega | assumption | (simp; done) | fail) [-List.all_eq_true,-List.all_cons,hmi,c1,c2,hfi,c3,hfpq,c4,hpq,zgf,zah,solD]
 rw [if_neg c5];rcases hmm:zdv ls with _ | ⟨j,_ | ⟨k,_ | ⟨m,t⟩⟩⟩
 ·rw [hmm] at c5 hmi
  simp (disch:=first | omega | assumption | (simp; done) | fail) [-List.all_eq_true,-List.all_cons,hmi,c1,c2,hfi,c3,hfpq,c4,hpq,zgf,zah,solD,hfl,zfJ]
 ·have hj:=zeA.1 (show j∈zdv ls by rw [hmm]; simp)
  rw [hmm] at c5 hmi;have hi1:intL [(j:Int)]=[.int .i64 j]:=rfl
  have c6:¬ 2 < 1+((zdv [p,q]).length:Int):=by simp at c5; omega
  have hg:=ztg (ls:=zcN ls) (i:=j) (by omega)
  dsimp only
  by_cases hp:0 < p.length
  ·rw [if_pos hp]
   have hP:=zDc (n:=32) .lent (ps:=fP (zcN ls)) (by omega) (by simp; omega) (by simp; omega) (by intro x hx; obtain ⟨l,hl,rfl⟩:=List.mem_map.1 hx; unfold zcN at hl; obtain ⟨y,_,rfl⟩:=List.mem_map.1 hl; exact ziY 32 y)
   rw [zxZ] at hP
   have hpl:p.length=32:=by
    simp [fitS] at c4;rcases c4.1 with e | e
    ·rw [e] at hp; cases hp
    ·omega
   simp (disch:=first | omega | assumption | (simp; done) | fail) [-List.all_eq_true,-List.all_cons,hmi,c1,c2,hfi,c3,hfpq,c4,hpq,zgf,hi1,zah,solD,hfl,hP,hp,zii,zal hg,pLs,zfJ,hfill,c6,D.isAgg]
  ·rw [if_neg hp]
   have hq:q.length=32:=by
    have hp0:p=[]:=by cases p; rfl; simp at hp
    have hq0:¬ q=[]:=by intro e; rw [hml2,if_pos hp0,if_pos e] at c5; simp at c5
    simp [fitS] at c4;rcases c4.2 with e | e
    ·exact absurd e hq0
    ·omega
   have hQ:=by_q (ps:=fP (zcN ls)) (by simp; omega) (by simp; omega) (by intro x hx; obtain ⟨l,hl,rfl⟩:=List.mem_map.1 hx; unfold zcN at hl; obtain ⟨y,_,rfl⟩:=List.mem_map.1 hl; exact ziY 32 y) .lent .lent hq (k:=j) (by omega)
   rw [zxZ] at hQ
   simp (disch:=first | omega | assumption | (simp; done) | fail) [-List.all_eq_true,-List.all_cons,hmi,c1,c2,hfi,c3,hfpq,c4,hpq,zgf,hi1,zah,solD,hfl,hQ,hp,zal hg,pLs,zfJ,hfill,c6,D.isAgg]
 ·have hj:=zeA.1 (show j∈zdv ls by rw [hmm]; simp)
  have hk:=zeA.1 (show k∈zdv ls by rw [hmm]; simp)
  have hjk:j < k:=by have:=znr ls; rw [hmm] at this; simpa using this
  rw [hmm] at c5 hmi;have hi1:intL [(j:Int),(k:Int)]=[.int .i64 j,.int .i64 k]:=rfl
  have c6:¬ 2 < 2+((zdv [p,q]).length:Int):=by simp at c5; simp [c5]
  have hp0:¬ p=[]:=by intro e; rw [hml2,if_pos e] at c5; simp at c5
  have hq0:¬ q=[]:=by intro e; rw [hml2,if_pos e] at c5; simp at c5
  have hpl:p.length=32∧q.length=32:=by
   simp [fitS] at c4
   exact ⟨by rcases c4.1 with e | e; exact absurd e hp0; omega,by rcases c4.2 with e | e; exact absurd e hq0; omega⟩
  have hT:=zIn (ps:=fP (zcN ls)) (by simp; omega) (by simp; omega) (by intro x hx; obtain ⟨l,hl,rfl⟩:=List.mem_map.1 hx; unfold zcN at hl; obtain ⟨y,_,rfl⟩:=List.mem_map.1 hl; exact ziY 32 y) .lent .lent .lent hpl.1 hpl.2 (j:=j) (k:=k) (by omega) (by omega)
  rw [zxZ] at hT
  have hg:=ztg (ls:=zcN ls) (i:=j) (by omega)
  have hg2:=ztg (ls:=(zcN ls).set j (twoX p q (zcN ls) j k)) (i:=k) (by simp; omega)
  dsimp only
  simp (disch:=first | omega | assumption | (simp; done) | fail) [-List.all_eq_true,-List.all_cons,hmi,c1,c2,hfi,c3,hfpq,c4,hpq,zgf,hi1,zah,solD,hfl,hT,zal hg,zal hg2,pLs,zfJ,hfill,c6,D.isAgg]
 ·rw [hmm] at c5; simp at c5; omega
end Wf

namespace Wf
open Go Go.RowKit Go.Proofs
set_option linter.unusedSimpArgs false
set_option linter.unusedVariables false
def zql (b:Int) (k:Nat) (s:Int×Int):Int×Int:=
  (if IntKind.i64.wrap (s.1*2) > 255 then bits .xor .i64 (IntKind.i64.wrap (s.1*2)) 285 else IntKind.i64.wrap (s.1*2),
   if bits .and .u8 (b.fdiv (2 ^ min k 8)) 1=1 then bits .xor .i64 s.2 s.1 else s.2)
def zeR (a b:Int):Nat→Int×Int
 | 0=>(IntKind.i64.wrap a,0)
 | k+1=>zql b k (zeR a b k)
def zfh (a b:Int):Int:=IntKind.u8.wrap (zeR a b 8).2
theorem zDi (a b:Int):zaR [.int .u8 a,.int .u8 b]=some (.int .u8 (zfh a b)):=by
 rw [zmC];unfold zf3;rw [zaF]
 refine zcr (fun k=>((b,(zeR a b k).1,(zeR a b k).2,(k:Int),PUnit.unit),PUnit.unit)) 8 (by omega) ?_ ?_
 ·intro again k hk;dsimp only
  have hd:decide ((k:Int) < 8)=true:=by simp; omega
  rw [hd,zaX,zaF,zEn (by omega) (by omega),zaa (by omega),zaF,zaF,Int.toNat_natCast]
  have hs:zeR a b (k+1)=zql b k (zeR a b k):=rfl
  have hk1:IntKind.i64.wrap ((k:Int)+1)=((k+1:Nat):Int):=by rw [zah (by omega) (by omega)]; rfl
  rw [hs];unfold zql
  by_cases hb:bits .and .u8 (b.fdiv (2 ^ min k 8)) 1=1
  ·have hb':(bits .and .u8 (b.fdiv (2 ^ min k 8)) 1 == 1)=true:=by simp [hb]
   rw [hb',zaX,zaF,zaF,if_pos hb]
   by_cases hx:IntKind.i64.wrap ((zeR a b k).1*2) > 255
   ·have hx':decide (IntKind.i64.wrap ((zeR a b k).1*2) > 255)=true:=by simp [hx]
    rw [hx',zaX,zaF,zaF,hk1,if_pos hx]
   ·have hx':decide (IntKind.i64.wrap ((zeR a b k).1*2) > 255)=false:=by simp; omega
    rw [hx',zaq,zaF,hk1,if_neg hx]
  ·have hb':(bits .and .u8 (b.fdiv (2 ^ min k 8)) 1 == 1)=false:=by simp [hb]
   rw [hb',zaq,zaF,if_neg hb]
   by_cases hx:IntKind.i64.wrap ((zeR a b k).1*2) > 255
   ·have hx':decide (IntKind.i64.wrap ((zeR a b k).1*2) > 255)=true:=by simp [hx]
    rw [hx',zaX,zaF,zaF,hk1,if_pos hx]
   ·have hx':decide (IntKind.i64.wrap ((zeR a b k).1*2) > 255)=false:=by simp; omega
    rw [hx',zaq,zaF,hk1,if_neg hx]
 ·intro again;dsimp only
  have hd:decide (((8:Nat):Int) < 8)=false:=by simp
  rw [hd,zaq,zaF];rfl
def zeo:Nat→Int
 | 0=>1
 | k+1=>zfh (zeo k) 2
theorem zGY (k:Nat) (hk:k < 255):zbO [.int .i64 k]=some (.int .u8 (zeo k)):=by
 rw [zmE];unfold zf4
 have e1:Int.tmod (k:Int) 255=k:=by rw [Int.tmod_eq_emod_of_nonneg (by omega),Int.emod_eq_of_lt (by omega) (by omega)]
 have hd:decide ((k:Int) < 0)=false:=by simp
 rw [zaF,e1,hd,zaq]
 let st:Nat→(Int×Int×PUnit)×PUnit:=fun j=>(((k:Int) - (j:Int),zeo j,PUnit.unit),PUnit.unit)
 have hst:st 0=(((k:Int),1,PUnit.unit),PUnit.unit):=by simp [st,zeo]
 rw [←hst]
 refine zcr st k (by omega) ?_ ?_
 ·intro again j hj;dsimp only [st]
  have hd:decide ((k:Int) - (j:Int) > 0)=true:=by simp; omega
  rw [hd,zaX,zDi,zad,za3,zaF,zah (by omega) (by omega)]
  have:(k:Int) - (j:Int) - 1=(k:Int) - ((j+1:Nat):Int):=by omega
  rw [this];rfl
 ·intro again;dsimp only [st]
  have hd:decide ((k:Int) - (k:Int) > 0)=false:=by simp
  rw [hd,zaq]
def mixL (f:Int→Int→Int) (acc p:List Int) (j:Nat):List Int:=(List.zipWith f acc p).take j++acc.drop j
theorem zAl {f:Int→Int→Int} {acc p:List Int} (h:p.length=acc.length) {j:Nat} (hj:j≤acc.length):(mixL f acc p j).length=acc.length:=by
 unfold mixL; simp [h]; omega
theorem zAm {f:Int→Int→Int} {acc p:List Int} (h:p.length=acc.length) {j:Nat} (hj:j < acc.length):(mixL f acc p j)[j]? =some acc[j]:=by
 unfold mixL
 rw [List.getElem?_append_right (by simp; omega)]
 simp [h]
 rw [show j - min j acc.length=0 by omega]
 simp [hj]
theorem zAn {f:Int→Int→Int} {acc p:List Int} (h:p.length=acc.length) {j:Nat} (hj:j < acc.length):(mixL f acc p j).set j (f acc[j] (p[j]'(by omega)))=mixL f acc p (j+1):=by
 unfold mixL
 have hl:((List.zipWith f acc p).take j).length=j:=by simp [h]; omega
 rw [List.set_append_right _ _ (by omega),hl,Nat.sub_self,List.take_add_one,List.drop_eq_getElem_cons hj,List.set_cons_zero]
 simp [List.getElem?_zipWith,hj,h]
theorem zAo {f:Int→Int→Int} {acc p:List Int} (h:p.length=acc.length):mixL f acc p acc.length=List.zipWith f acc p:=by
 unfold mixL
 rw [List.drop_of_length_le (Nat.le_refl _),List.append_nil,List.take_of_length_le (by simp; omega)]
theorem zx0 (f:Int→Int→Int) (acc p:List Int):mixL f acc p 0=acc:=by simp [mixL]
def sumR (F:Nat→Int→Int) (n:Nat) (ls:List (List Int)):Nat→List Int
 | 0=>List.replicate n 0
 | k+1=>List.zipWith (fun a x=>xor8 a (F k x)) (sumR F n ls k) (ls.getD k [])
theorem zwm {F:Nat→Int→Int} {n:Nat} {ls:List (List Int)} (h:∀ l∈ls,l.length=n):∀ {k:Nat},k≤ls.length→(sumR F n ls k).length=n
 | 0,_=>by simp [sumR]
 | k+1,hk=>by
  have e:ls.getD k []=ls[k]:=by simp [List.getD_eq_getElem?_getD,List.getElem?_eq_getElem (show k < ls.length by omega)]
  simp only [sumR,List.length_zipWith,e,zwm h (show k≤ls.length by omega),h _ (List.getElem_mem (show k < ls.length by omega))]
  omega
def refP (n:Nat) (ls:List (List Int)):List Int:=sumR (fun _ x=>x) n ls ls.length
def refQ (n:Nat) (ls:List (List Int)):List Int:=sumR (fun k x=>zfh x (zeo k)) n ls ls.length
theorem zx1 (tg:Tag) {ps:List Part} {n:Nat} (h0:0 < ps.length) (h1:ps.length < 100000) (h:∀ x∈ps,x.2.length=n):zaK [.sl tg (pL ps)]=some (.bool true):=by
 rw [zky,zdc]
 have hlen:(ps.map fun x=>(zb0 x.1 x.2,x.2)).length=ps.length:=by simp
 have hl':∀ x∈(ps.map fun x=>(zb0 x.1 x.2,x.2)),x.2.length=n:=by intro x hx; obtain ⟨y,hy,rfl⟩:=List.mem_map.1 hx; exact h y hy
 rw [←hlen] at h0 h1
 generalize (ps.map fun x=>(zb0 x.1 x.2,x.2))=rs at*
 unfold ze4;obtain ⟨x0,hx0⟩:∃ x,rs[0]? =some x:=⟨_,List.getElem?_eq_getElem h0⟩
 refine zcr (fun k=>((pL rs,pL rs,((pL rs).length:Int),(k:Int),PUnit.unit),PUnit.unit)) rs.length h1 ?_ ?_
 ·intro again k hk;dsimp only;obtain ⟨x,hx⟩:∃ x,rs[k]? =some x:=⟨_,List.getElem?_eq_getElem hk⟩
  have hd:decide ((k:Int) < ((pL rs).length:Int))=true:=by simp; omega
  have hb:(((uL x.2).length:Int) != ((uL x0.2).length:Int))=false:=by simp [hl' x (List.mem_of_getElem? hx),hl' x0 (List.mem_of_getElem? hx0)]
  rw [hd,zaX,zaa (by omega),zal (by simpa using zcR hx),zc0,zal (zcR hx0),zc0,hb,zaq,zaF,zah (by omega) (by omega)]
  rfl
 ·intro again
  have hd:decide ((rs.length:Int) < ((pL rs).length:Int))=false:=by simp
  have hd2:decide (((pL rs).length:Int) > 0)=true:=by simp; omega
  dsimp only;rw [hd,zaq,hd2]
theorem zI7 (tg:Tag) {ps:List Part} {n:Nat} (hn:n < 100000) (h0:0 < ps.length) (h1:ps.length < 100000) (h:∀ x∈ps,x.2.length=n):zb4 [.sl tg (pL ps)]=some (.sl .own (uL (refP n (ps.map (·.2))))):=by
 rw [zoN,zdc]
 have hlen:(ps.map fun x=>(zb0 x.1 x.2,x.2)).length=ps.length:=by simp
 have hm:(ps.map fun x=>(zb0 x.1 x.2,x.2)).map (·.2)=ps.map (·.2):=by rw [List.map_map]; rfl
 have hl':∀ x∈(ps.map fun x=>(zb0 x.1 x.2,x.2)),x.2.length=n:=by intro x hx; obtain ⟨y,hy,rfl⟩:=List.mem_map.1 hx; exact h y hy
 rw [←hlen] at h0 h1;rw [←hm]
 generalize (ps.map fun x=>(zb0 x.1 x.2,x.2))=rs at*
 clear hm hlen h ps;unfold zhA;obtain ⟨x0,hx0⟩:∃ x,rs[0]? =some x:=⟨_,List.getElem?_eq_getElem h0⟩
 have hls:∀ l∈rs.map (·.2),l.length=n:=by intro l hl; obtain ⟨y,hy,rfl⟩:=List.mem_map.1 hl; exact hl' y hy
 rw [zx1 .lent h0 h1 hl',zad,zch,Bool.not_true,zaq,zal (zcR hx0),zc0,zaa (by rfl),zdz,hl' x0 (List.mem_of_getElem? hx0),zaa (by omega),zaa (by omega),zaa (by simp),Int.toNat_natCast,zsw]
 let st:Nat→(List D×List D×Int×Int×PUnit)×PUnit:=fun k=>((uL (sumR (fun _ x=>x) n (rs.map (·.2)) k),pL rs,((pL rs).length:Int),(k:Int),PUnit.unit),PUnit.unit)
 have hst:st 0=((uL (List.replicate n 0),pL rs,((pL rs).length:Int),0,PUnit.unit),PUnit.unit):=rfl;rw [←hst];refine zcr st rs.length h1 ?_ ?_
 ·intro again k hk;dsimp only [st];obtain ⟨x,hx⟩:∃ x,rs[k]? =some x:=⟨_,List.getElem?_eq_getElem hk⟩;have hxl:=hl' x (List.mem_of_getElem? hx)
  have hd:decide ((k:Int) < ((pL rs).length:Int))=true:=by simp; omega
  have hsl:=zwm (F:=fun _ x=>x) hls (k:=k) (by simp; omega)
  have hxe:x.2.length=(sumR (fun _ x=>x) n (rs.map (·.2)) k).length:=by omega
  rw [hd,zaX,zaa (by omega),zal (by simpa using zcR hx),zc0,zaa (by rfl)]
  let s2:Nat→(List D×List D×Int×Int×(Tag×List D)×Int×Int×PUnit)×PUnit:=fun j=>((uL (mixL (fun a x=>xor8 a x) (sumR (fun _ x=>x) n (rs.map (·.2)) k) x.2 j),pL rs,((pL rs).length:Int),(k:Int),(x.1,uL x.2),((uL x.2).length:Int),(j:Int),PUnit.unit),PUnit.unit)
  have hs2:s2 0=((uL (sumR (fun _ x=>x) n (rs.map (·.2)) k),pL rs,((pL rs).length:Int),(k:Int),(x.1,uL x.2),((uL x.2).length:Int),0,PUnit.unit),PUnit.unit):=by simp only [s2,zx0]; rfl
  rw [←hs2]
  refine zcr s2 x.2.length (by omega) ?_ ?_
  ·intro again2 j hj;dsimp only [s2]
   have hd:decide ((j:Int) < ((uL x.2).length:Int))=true:=by simp; omega
   have g1:x.2[j]? =some x.2[j]:=List.getElem?_eq_getElem hj
   have g2:=zAm (f:=fun a x=>xor8 a x) hxe (j:=j) (by omega)
   have ml:=zAl (f:=fun a x=>xor8 a x) hxe (j:=j) (by omega)
   have ms:=zAn (f:=fun a x=>xor8 a x) hxe (j:=j) (by omega)
   rw [hd,zaX,zaa (by omega),zal (by simpa using zkd g1),za3,zaa (by omega),zaa (by rw [zdz,ml]; omega),zal (by simpa using zkd g2),za3,zaF,zaa (by omega),zaa (by rw [zdz,ml]; omega),zal (by simpa using zkd g2),zaa (by rfl),zaF,
    zah (by omega) (by omega),zaa (by simp),Nat.zero_add,zCH,show Int.toNat (j:Int)=j from rfl,ms]
   rfl
  ·intro again2;dsimp only [s2]
   have hd:decide ((x.2.length:Int) < ((uL x.2).length:Int))=false:=by simp
   have me:mixL (fun a x=>xor8 a x) (sumR (fun _ x=>x) n (rs.map (·.2)) k) x.2 x.2.length=sumR (fun _ x=>x) n (rs.map (·.2)) (k+1):=by
    rw [hxe,zAo hxe]
    have:(rs.map (·.2)).getD k []=x.2:=by simp [List.getD_eq_getElem?_getD,hx]
    simp only [sumR,this]
   rw [hd,zaq,zaF,zah (by omega) (by omega),zaa (by rfl),me]
   rfl
 ·intro again;dsimp only [st]
  have hd:decide ((rs.length:Int) < ((pL rs).length:Int))=false:=by simp
  rw [hd,zaq,zaa (by rfl),zaa (zhv _)]
  simp [refP]
theorem zI8 (tg:Tag) {ps:List Part} {n:Nat} (hn:n < 100000) (h0:0 < ps.length) (h1:ps.length < 255) (h:∀ x∈ps,x.2.length=n):zb5 [.sl tg (pL ps)]=some (.sl .own (uL (refQ n (ps.map (·.2))))):=by
 rw [zoP,zdc]
 have hlen:(ps.map fun x=>(zb0 x.1 x.2,x.2)).length=ps.length:=by simp
 have hm:(ps.map fun x=>(zb0 x.1 x.2,x.2)).map (·.2)=ps.map (·.2):=by rw [List.map_map]; rfl
 have hl':∀ x∈(ps.map fun x=>(zb0 x.1 x.2,x.2)),x.2.length=n:=by intro x hx; obtain ⟨y,hy,rfl⟩:=List.mem_map.1 hx; exact h y hy
 rw [←hlen] at h0 h1;rw [←hm]
 generalize (ps.map fun x=>(zb0 x.1 x.2,x.2))=rs at*
 clear hm hlen h ps;unfold zhD;obtain ⟨x0,hx0⟩:∃ x,rs[0]? =some x:=⟨_,List.getElem?_eq_getElem h0⟩
 have hls:∀ l∈rs.map (·.2),l.length=n:=by intro l hl; obtain ⟨y,hy,rfl⟩:=List.mem_map.1 hl; exact hl' y hy
 rw [zx1 .lent h0 (by omega) hl',zad,zch,Bool.not_true,zaq,zal (zcR hx0),zc0,zaa (by rfl),zdz,hl' x0 (List.mem_of_getElem? hx0),zaa (by omega),zaa (by omega),zaa (by simp),Int.toNat_natCast,zsw]
 let st:Nat→(List D×List D×Int×Int×PUnit)×PUnit:=fun k=>((uL (sumR (fun k x=>zfh x (zeo k)) n (rs.map (·.2)) k),pL rs,((pL rs).length:Int),(k:Int),PUnit.unit),PUnit.unit)
 have hst:st 0=((uL (List.replicate n 0),pL rs,((pL rs).length:Int),0,PUnit.unit),PUnit.unit):=rfl;rw [←hst]
 refine zcr st rs.length (by omega) ?_ ?_
 ·intro again k hk;dsimp only [st];obtain ⟨x,hx⟩:∃ x,rs[k]? =some x:=⟨_,List.getElem?_eq_getElem hk⟩;have hxl:=hl' x (List.mem_of_getElem? hx)
  have hd:decide ((k:Int) < ((pL rs).length:Int))=true:=by simp; omega
  have hsl:=zwm (F:=fun k x=>zfh x (zeo k)) hls (k:=k) (by simp; omega)
  have hxe:x.2.length=(sumR (fun k x=>zfh x (zeo k)) n (rs.map (·.2)) k).length:=by omega
  rw [hd,zaX,zaa (by omega),zal (by simpa using zcR hx),zc0,zGY k (by omega),zad,za3,zaa (by rfl)]
  let s2:Nat→(List D×Int×List D×Int×Int×(Tag×List D)×Int×Int×PUnit)×PUnit:=fun j=>((uL (mixL (fun a x=>xor8 a (zfh x (zeo k))) (sumR (fun k x=>zfh x (zeo k)) n (rs.map (·.2)) k) x.2 j),zeo k,pL rs,((pL rs).length:Int),(k:Int),(x.1,uL x.2),((uL x.2).length:Int),(j:Int),PUnit.unit),PUnit.unit)
  have hs2:s2 0=((uL (sumR (fun k x=>zfh x (zeo k)) n (rs.map (·.2)) k),zeo k,pL rs,((pL rs).length:Int),(k:Int),(x.1,uL x.2),((uL x.2).length:Int),0,PUnit.unit),PUnit.unit):=by simp only [s2,zx0]; rfl
  rw [←hs2]
  refine zcr s2 x.2.length (by omega) ?_ ?_
  ·intro again2 j hj;dsimp only [s2]
   have hd:decide ((j:Int) < ((uL x.2).length:Int))=true:=by simp; omega
   have g1:x.2[j]? =some x.2[j]:=List.getElem?_eq_getElem hj
   have g2:=zAm (f:=fun a x=>xor8 a (zfh x (zeo k))) hxe (j:=j) (by omega)
   have ml:=zAl (f:=fun a x=>xor8 a (zfh x (zeo k))) hxe (j:=j) (by omega)
   have ms:=zAn (f:=fun a x=>xor8 a (zfh x (zeo k))) hxe (j:=j) (by omega)
   rw [hd,zaX,zaa (by omega),zal (by simpa using zkd g1),za3,zaa (by omega),zaa (by rw [zdz,ml]; omega),zal (by simpa using zkd g2),za3,zDi,zad,za3,zaF,zaa (by omega),zaa (by rw [zdz,ml]; omega),zal (by simpa using zkd g2),zaa (by rfl),zaF,
    zah (by omega) (by omega),zaa (by simp),Nat.zero_add,zCH,show Int.toNat (j:Int)=j from rfl,ms]
   rfl
  ·intro again2;dsimp only [s2]
   have hd:decide ((x.2.length:Int) < ((uL x.2).length:Int))=false:=by simp
   have me:mixL (fun a x=>xor8 a (zfh x (zeo k))) (sumR (fun k x=>zfh x (zeo k)) n (rs.map (·.2)) k) x.2 x.2.length=sumR (fun k x=>zfh x (zeo k)) n (rs.map (·.2)) (k+1):=by
    rw [hxe,zAo hxe]
    have:(rs.map (·.2)).getD k []=x.2:=by simp [List.getD_eq_getElem?_getD,hx]
    simp only [sumR,this]
   rw [hd,zaq,zaF,zah (by omega) (by omega),zaa (by rfl),me]
   rfl
 ·intro again;dsimp only [st]
  have hd:decide ((rs.length:Int) < ((pL rs).length:Int))=false:=by simp
  rw [hd,zaq,zaa (by rfl),zaa (zhv _)]
  simp [refQ]
def znb (n:Int) (i:Nat):Int:=IntKind.u8.wrap (IntKind.i64.wrap (n+IntKind.i64.wrap ((i:Int)*bits .or .i64 (IntKind.i64.wrap (n.tdiv 7)) 1)))
def secN (n:Int):List Int:=if n % 11=10 then List.replicate 32 0 else (List.range 32).map (znb n)
theorem zE1 (n:Int):Sec (secN n):=by
 unfold secN;split
 ·exact zxr
 ·refine ⟨by simp,fun x h=>?_⟩
  obtain ⟨i,_,rfl⟩:=List.mem_map.1 h;exact zss _
theorem zth (n:Int):zbj [.int .i64 n]=some (.sl .own (uL (secN n))):=by
 rw [zkv];unfold ze3
 rw [ztb n 11 (by omega) (by omega),zad,za3]
 unfold secN
 by_cases h:n % 11=10
 ·rw [if_pos h]; simp [h]; rfl
 ·rw [if_neg h]
  have hb:(n % 11 == 10)=false:=by simp [h]
  rw [hb,zaq]
  have:=zcr (R:=D) (α:=(Int×List D×Int×Int×PUnit)×PUnit)
   (fun k=>((n,uL ((List.range 32).map fun i=>if i < k then znb n i else 0),32,(k:Int),PUnit.unit),PUnit.unit)) 32 (by omega)
   (B:=?B) (r:=some (.sl .own (uL ((List.range 32).map (znb n))))) ?_ ?_
  ·exact this
  ·intro again k hk;dsimp only
   have hd:decide ((k:Int) < 32)=true:=by simp; omega
   have hg:((List.range 32).map fun i=>if i < k then znb n i else 0)[k]? =some 0:=by simp [hk]
   have hv:znb n k=IntKind.u8.wrap (IntKind.i64.wrap (n+IntKind.i64.wrap ((k:Int)*bits .or .i64 (IntKind.i64.wrap (n.tdiv 7)) 1))):=rfl
   rw [hd,zaX,zaF,zaF,zaF,zaF,zaF,←hv,zaa (by omega),zaa (by simp; omega),zal (by simpa using zkd hg)]
   rw [zaa (by rfl),zaF,zah (n:=(k:Int)+1) (by omega) (by omega),zaa (by simp)]
   have:(uL ((List.range 32).map fun i=>if i < k then znb n i else 0)).set (0+Int.toNat (k:Int)) (.int .u8 (znb n k))=uL ((List.range 32).map fun i=>if i < k+1 then znb n i else 0):=by
    rw [zCH];congr 1;apply List.ext_getElem?;intro j;rw [List.getElem?_set]
    by_cases hj:j < 32
    ·by_cases hjk:k=j
     ·subst hjk; simp [hj]
     ·have:(0+Int.toNat (k:Int))≠j:=by simp; exact hjk
      rw [if_neg this];simp [hj]
      by_cases h1:j < k
      ·rw [if_pos h1,if_pos (by omega)]
      ·rw [if_neg h1,if_neg (by omega)]
    ·simp [hj];omega
   rw [this];rfl
  ·intro again
   have e:((List.range 32).map fun i=>if i < 32 then znb n i else 0)=(List.range 32).map (znb n):=by
    apply List.map_congr_left; intro i hi; rw [if_pos (List.mem_range.1 hi)]
   dsimp only;rw [e];simp
def secL (l:List Int) (n:Nat):List (List Int):=(List.range n).map fun (i:Nat)=>secN (l.getD i (3*(i:Int)))
theorem zAp (l:List Int) (n:Nat):∀ x∈secL l n,Sec x:=by
 intro x hx; obtain ⟨i,_,rfl⟩:=List.mem_map.1 hx; exact zE1 _
@[simp] theorem zIK (l:List Int) (n:Nat):(secL l n).length=n:=by simp [secL]
theorem zGZ (ls:List (List Int)) (l:List Int):pL (fP ls)++[.sl .fresh (uL l)]=pL (fP (ls++[l])):=by simp [pL,fP]
theorem zqQ (tg:Tag) (l:List Int) {n:Nat} (hn:n < 100000):zaH [.sl tg (intL l),.int .i64 n]=some (.sl .own (pL (fP (secL l n)))):=by
 rw [zjN,zou];unfold zeH
 let st:Nat→(List D×Int×List D×Int×PUnit)×PUnit:=fun k=>((intL l,(n:Int),pL (fP (secL l k)),(k:Int),PUnit.unit),PUnit.unit)
 show zb3 _ (st 0)=_;refine zcr st n hn ?_ ?_
 ·intro again k hk;dsimp only [st]
  have hd:decide ((k:Int) < (n:Int))=true:=by simp; omega
  have hs:secL l (k+1)=secL l k++[secN (l.getD k (3*(k:Int)))]:=by unfold secL; rw [List.range_succ,List.map_append]; rfl
  rw [hd,zaX,zaF,zgf,hs,←zGZ]
  by_cases hkl:k < l.length
  ·have hd2:decide ((k:Int) < (l.length:Int))=true:=by simp; omega
   have hg:l.getD k (3*(k:Int))=l[k]:=by simp [List.getD_eq_getElem?_getD,hkl]
   rw [hd2,zaX,zaa (by omega),zal (by simpa using zEl hkl),za3,zth,zad,zbA,zaa (by omega),zaa (by simp; omega),zaa (by rfl),zaF,zah (n:=(k:Int)+1) (by omega) (by omega),zdD,zaa (by simp),hg]
   rfl
  ·have hd2:decide ((k:Int) < (l.length:Int))=false:=by simp; omega
   have hg:l.getD k (3*(k:Int))=3*(k:Int):=by simp [List.getD_eq_getElem?_getD,List.getElem?_eq_none (show l.length≤k by omega)]
   rw [hd2,zaq,zah (n:=3*(k:Int)) (by omega) (by omega),zth,zad,zbA,zaa (by omega),zaa (by simp; omega),zaa (by rfl),zaF,zah (n:=(k:Int)+1) (by omega) (by omega),zdD,zaa (by simp),hg]
   rfl
 ·intro again;dsimp only [st]
  have hd:decide ((n:Int) < (n:Int))=false:=by simp
  rw [hd,zaq,zaa (by rfl),zaa (zfJ _)]
def zmo (b:Nat) (k:Nat) (s:Nat×Nat):Nat×Nat:=
 (if 255 < s.1*2 then (s.1*2) ^^^ 285 else s.1*2,if b / 2 ^ k % 2=1 then s.2 ^^^ s.1 else s.2)
def zcX (a b:Nat):Nat→Nat×Nat
 | 0=>(a,0)
 | k+1=>zmo b k (zcX a b k)
theorem zG0 {m n k:Nat} (hm:m < 2 ^ k) (hn:n < 2 ^ k):m ^^^ n < 2 ^ k:=Nat.xor_lt_two_pow hm hn
theorem zIo (m n:Nat) (hm:m < 1024) (hn:n < 1024):bits .xor .i64 (m:Int) (n:Int)=((m ^^^ n:Nat):Int):=by
 have h:m ^^^ n < 2 ^ 10:=zG0 (by omega) (by omega)
 have e:((BitVec.ofInt 64 (m:Int)) ^^^ (BitVec.ofInt 64 (n:Int))).toNat=m ^^^ n:=by
  rw [BitVec.toNat_xor]
  simp [Nat.mod_eq_of_lt (show m < 18446744073709551616 by omega),Nat.mod_eq_of_lt (show n < 18446744073709551616 by omega)]
 show IntKind.i64.wrap (((BitVec.ofInt 64 (m:Int)) ^^^ (BitVec.ofInt 64 (n:Int))).toNat:Int)=_;rw [e]
 exact zah (by omega) (by omega)
theorem zti {a b:Nat} (ha:a < 256) (hb:b < 256):∀ k,k≤8→(zeR a b k).1=((zcX a b k).1:Int)∧(zeR a b k).2=((zcX a b k).2:Int)∧(zcX a b k).1 < 256∧(zcX a b k).2 < 256
 | 0,_=>⟨zah (by omega) (by omega),rfl,ha,by show 0 < 256; omega⟩
 | k+1,hk=>by
  obtain ⟨h1,h2,h3,h4⟩:=zti ha hb k (by omega)
  have w:IntKind.i64.wrap (((zcX a b k).1:Int)*2)=(((zcX a b k).1*2:Nat):Int):=by rw [zah (by omega) (by omega)]; omega
  have hx:(zcX a b k).2 ^^^ (zcX a b k).1 < 256:=zow h4 h3
  have hbk:bits .and .u8 ((b:Int).fdiv (2 ^ min k 8)) 1=((b / 2 ^ k % 2:Nat):Int):=by
   have e:((b:Int).fdiv (2 ^ min k 8))=((b / 2 ^ k:Nat):Int):=by
    rw [show min k 8=k by omega,Int.fdiv_eq_ediv_of_nonneg _ (by exact_mod_cast Nat.zero_le (2 ^ k))]
    simp
   rw [e];exact and1 _ (Nat.lt_of_le_of_lt (Nat.div_le_self _ _) hb)
  have hd:∀ x < 256,255 < x*2→(x*2) ^^^ 285 < 256:=by decide+kernel
  show (zql b k (zeR a b k)).1=((zmo b k (zcX a b k)).1:Int)∧(zql b k (zeR a b k)).2=((zmo b k (zcX a b k)).2:Int)∧(zmo b k (zcX a b k)).1 < 256∧(zmo b k (zcX a b k)).2 < 256;unfold zql zmo
  rw [h1,h2,hbk,w,zIo _ _ (by omega) (by omega)]
  have hx2:=zIo ((zcX a b k).1*2) 285 (by omega) (by omega)
  refine ⟨?_,?_,?_,?_⟩
  ·dsimp only;split
   ·rw [if_pos (by omega)]; exact hx2
   ·rw [if_neg (by omega)]
  ·dsimp only;split
   ·rw [if_pos (by omega)]
   ·rw [if_neg (by omega)]
  ·dsimp only;split
   ·exact hd _ h3 (by assumption)
   ·omega
  ·dsimp only;split
   ·exact hx
   ·exact h4
theorem zuS {a b:Nat} (ha:a < 256) (hb:b < 256):zfh a b=((zcX a b 8).2:Int)∧(zcX a b 8).2 < 256:=by
 obtain ⟨_,h2,_,h4⟩:=zti ha hb 8 (Nat.le_refl _);unfold zfh;rw [h2]
 exact ⟨zyF (by omega) (by omega),h4⟩
def zqm:Nat→Nat
 | 0=>1
 | k+1=>(zcX (zqm k) 2 8).2
theorem zuT:∀ k,zeo k=(zqm k:Int)∧zqm k < 256
 | 0=>⟨rfl,by decide⟩
 | k+1=>by
  obtain ⟨h1,h2⟩:=zuT k;show zfh (zeo k) 2=((zcX (zqm k) 2 8).2:Int)∧(zcX (zqm k) 2 8).2 < 256
  have:=zuS h2 (show 2 < 256 by omega)
  rw [show ((2:Nat):Int)=2 from rfl] at this
  rw [h1]; exact this
theorem zx2:∀ k < 7,∀ x < 256,(zcX x (zqm k) 8).2=mN x (powN k):=by decide+kernel
theorem zzf {x:Int} (h:Byt x) {k:Nat} (hk:k < 7):zfh x (zeo k)=mul8 x (pow8 k):=by
 obtain ⟨m,hm,rfl⟩:=zeZ h;obtain ⟨h1,h2⟩:=zuT k;have e1:=(zuS hm h2).1;have e2:=(zey hm (zin k)).1;have e3:=zx2 k hk m hm;rw [h1,zmi,e1,e2,e3]
theorem zDj {F:Nat→Int→Int} {f:Nat→Int} {ls:List (List Int)} (h:∀ l∈ls,Sec l) (hF:∀ k x,k < ls.length→Byt x→F k x=mul8 x (f k)):∀ {k:Nat},k≤ls.length→sumR F 32 ls k=sumK f 32 ls k
 | 0,_=>rfl
 | k+1,hk=>by
  have hs:=h _ (zc3 (show k < ls.length by omega))
  show List.zipWith (fun a x=>xor8 a (F k x)) (sumR F 32 ls k) (ls.getD k [])=List.zipWith xor8 (sumK f 32 ls k) ((ls.getD k []).map (mul8 · (f k)))
  rw [zDj h hF (by omega),List.zipWith_map_right]
  apply List.ext_getElem?;intro i;rw [List.getElem?_zipWith,List.getElem?_zipWith]
  cases e1:(sumK f 32 ls k)[i]? with
  | none=>rfl
  | some a=>
   cases e2:(ls.getD k [])[i]? with
   | none=>rfl
   | some x=>simp only; rw [hF k x (by omega) (hs.byt x (List.mem_of_getElem? e2))]
theorem zE2 {ls:List (List Int)} (h:∀ l∈ls,Sec l):refP 32 ls=sumP 32 ls:=by
 have:=zDj (F:=fun _ x=>x) (f:=fun _=>1) h (fun _ x _ hx=>(zrj hx).symm) (Nat.le_refl ls.length)
 exact this
theorem zE3 {ls:List (List Int)} (h:∀ l∈ls,Sec l) (h7:ls.length≤7):refQ 32 ls=sumQ 32 ls:=by
 have:=zDj (F:=fun k x=>zfh x (zeo k)) (f:=pow8) h (fun k x hk hx=>zzf hx (by omega)) (Nat.le_refl ls.length)
 exact this
end Wf

namespace Wf
open Go Go.RowKit Go.Proofs
set_option linter.unusedSimpArgs false
set_option linter.unusedVariables false
set_option maxHeartbeats 4000000
section
variable (g:Geo) (row k n:Int)
theorem zn5:zcV [.agg [.int .i64 g.l,.int .i64 g.d,.int .i64 g.c],.int .i64 row]=some (.bool (zcv g row)):=by
 rw [zyZ];unfold zvZ
 rw [show D.agg [.int .i64 g.l,.int .i64 g.d,.int .i64 g.c]=gD g.l g.d g.c from rfl,zgd,zad]
 show asI IntKind.i64 (.int .i64 _) _=_;rw [za3];unfold zcv;cases h:g.ok
 ·have:zdL g.l g.d g.c=false:=h;simp [this]
 ·have:zdL g.l g.d g.c=true:=h
  by_cases h0:0≤row
  ·simp [this,h0]
  ·simp [this,h0]
theorem zmp:zaN [.agg [.int .i64 g.l,.int .i64 g.d,.int .i64 g.c],.int .i64 row]=some (.tup [.int .i64 (parP g row).1,.int .i64 (parP g row).2]):=zxS g row
theorem ztj:zaY [.agg [.int .i64 g.l,.int .i64 g.d,.int .i64 g.c],.int .i64 row,.int .i64 k]=some (.int .i64 (zc7 g row k)):=zuP g row k
theorem zmq:zae [.agg [.int .i64 g.l,.int .i64 g.d,.int .i64 g.c]]=some (.int .i64 g.width):=zjs g
theorem zDk:zbp [.agg [.int .i64 g.l,.int .i64 g.d,.int .i64 g.c],.int .i64 row,.int .i64 k]=some (.int .i64 (zc7 g row k)):=zEK g row k
theorem zAq:zaE [.agg [.int .i64 g.l,.int .i64 g.d,.int .i64 g.c],.int .i64 row]=some (.tup [.int .i64 (parP g row).1,.int .i64 (parP g row).2]):=zCZ g row
theorem ztk:zaj [.agg [.int .i64 g.l,.int .i64 g.d,.int .i64 g.c],.int .i64 row]=some (.bool (zcv g row)):=zrs g row
theorem zmr:zab [.agg [.int .i64 g.l,.int .i64 g.d,.int .i64 g.c]]=some (.int .i64 g.width):=zmn g
theorem zDl:zc9 [.agg [.int .i64 g.l,.int .i64 g.d,.int .i64 g.c],.int .i64 n]=some (.tup [.int .i64 (ofP g n).1,.int .i64 (ofP g n).2.1,.bool (ofP g n).2.2]):=zEL g n
theorem ztl:za1 [.agg [.int .i64 g.l,.int .i64 g.d,.int .i64 g.c],.int .i64 row]=some (.sl .own (zoG g row)):=zBd g row
theorem zx3:zaZ [.agg [.int .i64 g.l,.int .i64 g.d,.int .i64 g.c],.int .i64 row]=some (.sl .own (zoG g row)):=zEM g row
end
def zhU (g:Geo) (row:Int) (ls:List (List Int)):Nat→List Part
 | 0=>List.replicate g.d.toNat (Tag.nil,[])
 | k+1=>(zhU g row ls k).set (zc7 g row (k:Int)).toNat (Tag.fresh,ls.getD k [])
def zBh (g:Geo) (row:Int) (ls:List (List Int)) (p q:List Int):List Part:=
 if (parP g row).2 < 0 then (zhU g row ls g.width.toNat).set (parP g row).1.toNat (Tag.fresh,p)
 else ((zhU g row ls g.width.toNat).set (parP g row).1.toNat (Tag.fresh,p)).set (parP g row).2.toNat (Tag.fresh,q)
theorem zfK (g:Geo) (row:Int) (ls:List (List Int)) (k:Nat):(zhU g row ls k).length=g.d.toNat:=by
 induction k with
 | zero=>simp [zhU]
 | succ k ih=>simp [zhU,ih]
theorem zuU (g:Geo) (row:Int) (ls:List (List Int)) (k:Nat):∀ x∈zhU g row ls k,Part.free x=true:=by
 induction k with
 | zero=>intro x hx; rw [(List.mem_replicate.1 hx).2]; rfl
 | succ k ih=>
  intro x hx;rcases List.mem_or_eq_of_mem_set hx with hx | hx
  ·exact ih x hx
  ·rw [hx]; rfl
theorem zrt {ps:List Part} (h:∀ x∈ps,Part.free x=true) (i:Nat) (l:List Int):∀ x∈ps.set i (Tag.fresh,l),Part.free x=true:=by
 intro x hx;rcases List.mem_or_eq_of_mem_set hx with hx | hx
 ·exact h x hx
 ·rw [hx]; rfl
theorem zka (t:Tag) (l:List D):D.isAgg (.sl t l)=false:=rfl
theorem zAr (n:Nat):pL (List.replicate n (Tag.nil,[]))=List.replicate n (D.sl .nil []):=by simp [pL,uL]
section
variable {g:Geo} {row:Int} (h:zcv g row=true)
include h
theorem zAs {ls:List (List Int)} {d:Int} (d0:0≤d) (d1:d < g.d) (h1:d≠(parP g row).1) (h2:d≠(parP g row).2):∀ k:Nat,(k:Int)≤g.width→
  (zhU g row ls k)[d.toNat]? =some (if zf0 g d row < k then (Tag.fresh,ls.getD (zf0 g d row).toNat []) else (Tag.nil,[]))
 | 0,_=>by
  obtain ⟨c0,c1,c2⟩:=zoI h d0 d1 h1 h2;unfold zhU
  rw [List.getElem?_replicate,if_pos (by omega),if_neg (by omega)]
 | k+1,hk=>by
  obtain ⟨c0,c1,c2⟩:=zoI h d0 d1 h1 h2
  have hdi:=zjH h (k:=(k:Int)) (by omega) (by omega)
  have ih:=zAs (ls:=ls) d0 d1 h1 h2 k (by omega)
  unfold zhU;rw [List.getElem?_set]
  by_cases e:zf0 g d row=k
  ·have e2:zc7 g row k=d:=by rw [←e]; exact c2
   rw [if_pos (by rw [e2]),if_pos (by rw [zfK,e2]; omega),if_pos (by omega)]
   congr 3;rw [e]; rfl
  ·have e2:zc7 g row k≠d:=fun e2=>e (zsE h c0 c1 (by omega) (by omega) (by rw [c2,e2]))
   rw [if_neg (by omega),ih]
   by_cases hlt:zf0 g d row < k
   ·rw [if_pos hlt,if_pos (by omega)]
   ·rw [if_neg hlt,if_neg (by omega)]
theorem zuV (ls:List (List Int)) (p q:List Int) (hp:p=sumP 32 ls) (hq:q=sumQ 32 ls∨g.l=5):zBh g row ls p q=fP (zcO g row ls):=by
 obtain ⟨hk,r0,r1⟩:=zbm.1 h;have hw:=zbL hk;obtain ⟨p0,p1,p2⟩:=zsF h;have hpq:=zFI h
 have hlen:(zBh g row ls p q).length=g.d.toNat:=by unfold zBh; split<;>simp [zfK]
 apply List.ext_getElem?;intro i
 by_cases hi:i < g.d.toNat
 ·have hr:(fP (zcO g row ls))[i]? =some (Tag.fresh,atR g row ls i):=zuR (zi2 (by omega))
  rw [hr]
  have hbase:∀ d:Int,0≤d→d < g.d→d≠(parP g row).1→d≠(parP g row).2→(zhU g row ls g.width.toNat)[d.toNat]? =some (Tag.fresh,atR g row ls d):=by
   intro d d0 d1 n1 n2;obtain ⟨c0,c1,c2⟩:=zoI h d0 d1 n1 n2
   rw [zAs h d0 d1 n1 n2 _ (by omega),if_pos (by omega)]
   unfold atR;rw [if_neg n1,if_neg n2]
  unfold zBh
  by_cases e1:(i:Int)=(parP g row).1
  ·have ha:atR g row ls i=p:=by rw [e1,at_p h,hp]
   rw [ha];split
   ·rw [List.getElem?_set,if_pos (by omega),if_pos (by rw [zfK]; omega)]
   ·rw [List.getElem?_set,if_neg (by omega),List.getElem?_set,if_pos (by omega),if_pos (by rw [zfK]; omega)]
  ·by_cases e2:(i:Int)=(parP g row).2
   ·have ha:atR g row ls i=sumQ 32 ls:=by rw [e2,at_q h]
    have h6:¬ (parP g row).2 < 0:=by omega
    rw [ha,if_neg h6,List.getElem?_set,if_pos (by omega),if_pos (by rw [List.length_set,zfK]; omega)]
    rcases hq with hq | hq
    ·rw [hq]
    ·rcases p2 with ⟨e,_⟩ | ⟨_,_,e⟩<;>omega
   ·have:=hbase i (by omega) (by omega) e1 e2
    rw [Int.toNat_natCast] at this;split
    ·rw [List.getElem?_set,if_neg (by omega),this]
    ·rw [List.getElem?_set,if_neg (by omega),List.getElem?_set,if_neg (by omega),this]
 ·rw [List.getElem?_eq_none (by omega),List.getElem?_eq_none (by simp [zpJ]; omega)]
end
theorem zE4 (t:Tag) (l:List Int):zav [.sl t (uL l)]=some (.bool (!decide (l.length=32))):=by
 rw [zo6,zdi];unfold zhN;simp only [zdz];congr 2
 by_cases h:l.length=32
 ·simp [h]
 ·simp [h]; omega
theorem zqn (tg:Tag) (ps:List Part) (hn:ps.length < 100000):
  ∃ r,zak [.sl tg (pL ps),.fn ID.row_sectors_1 [] []]=some r∧∃ i:Int,r=.int .i64 i∧decide (i≥0)= !(ps.all fun x=>decide (x.2.length=32)):=by
 rw [zd7,zdc]
 have hm:(ps.all fun x=>decide (x.2.length=32))=((ps.map fun x=>(zb0 x.1 x.2,x.2)).all fun x=>decide (x.2.length=32)):=by rw [List.all_map]; rfl
 have hlen:(ps.map fun x=>(zb0 x.1 x.2,x.2)).length=ps.length:=by simp
 rw [hm];rw [←hlen] at hn
 generalize (ps.map fun x=>(zb0 x.1 x.2,x.2))=rs at*
 unfold zcn
 refine zzY (fun a=>(rs.length:Nat) - a.1.2.2.1.toNat) (fun r=>∃ i:Int,r=D.int .i64 i∧decide (i≥0)= !(rs.all fun x=>decide (x.2.length=32)))
  (fun a=>∃ k:Nat,k≤rs.length∧((rs.take k).all fun x=>decide (x.2.length=32))=true∧a=((pL rs,(rs.length:Int),(k:Int),PUnit.unit),PUnit.unit)) ?_ ⟨0,by omega,by simp,by rw [ztf]; rfl⟩ (by simp; omega)
 rintro again _ ⟨k,hk,he,rfl⟩ hag
 dsimp only
 by_cases hkm:k < rs.length
 ·obtain ⟨x,hx⟩:∃ x,rs[k]? =some x:=⟨_,List.getElem?_eq_getElem hkm⟩
  have hd:decide ((k:Int) < (rs.length:Int))=true:=by simp; omega
  rw [hd,zaX,zaa (by omega),zal (by simpa using zcR hx),zc0,zE4,zad,zch]
  by_cases hf:x.2.length=32
  ·simp only [hf,decide_true,Bool.not_true,zaq,zaF]
   rw [zah (by omega) (by omega)]
   refine hag _ ⟨k+1,by omega,?_,rfl⟩ (by simp; omega)
   rw [List.take_add_one,hx,List.all_append,he];simp [hf]
  ·simp only [hf,decide_false,Bool.not_false,zaX];refine ⟨_,rfl,_,rfl,?_⟩
   have:(rs.all fun x=>decide (x.2.length=32))=false:=by
    rw [List.all_eq_false]
    exact ⟨x,List.mem_of_getElem? hx,by simp [hf]⟩
   rw [this];simp
 ·have hd:decide ((k:Int) < (rs.length:Int))=false:=by simp; omega
  rw [hd,zaq];refine ⟨_,rfl,_,rfl,?_⟩
  rw [List.take_of_length_le (by omega)] at he
  rw [he];rfl
theorem row_sectors (tg:Tag) (ps:List Part) (hn:ps.length < 100000):zct [.sl tg (pL ps)]=some (.bool (ps.all fun x=>decide (x.2.length=32))):=by
 rw [zrd,zdc]
 have hm:(ps.all fun x=>decide (x.2.length=32))=((ps.map fun x=>(zb0 x.1 x.2,x.2)).all fun x=>decide (x.2.length=32)):=by rw [List.all_map]; rfl
 have hlen:(ps.map fun x=>(zb0 x.1 x.2,x.2)).length=ps.length:=by simp
 rw [hm];rw [←hlen] at hn
 generalize (ps.map fun x=>(zb0 x.1 x.2,x.2))=rs at*
 unfold zj5
 have:zag [.sl .lent (pL rs),.fn ID.row_sectors_1 [] []]=some (.bool (!(rs.all fun x=>decide (x.2.length=32)))):=by
  rw [zdS,zdc]
  have hm:(rs.all fun x=>decide (x.2.length=32))=((rs.map fun x=>(zb0 x.1 x.2,x.2)).all fun x=>decide (x.2.length=32)):=by rw [List.all_map]; rfl
  have hlen:(rs.map fun x=>(zb0 x.1 x.2,x.2)).length=rs.length:=by simp
  rw [hm];rw [←hlen] at hn
  generalize (rs.map fun x=>(zb0 x.1 x.2,x.2))=qs at*
  unfold zcc;obtain ⟨r,h1,i,rfl,h2⟩:=zqn .lent qs hn;rw [h1,zad,za3,h2]
 rw [this,zad,zch,Bool.not_not]
theorem zE5 (g:Geo) (row:Int) (tg:Tag) {ps:List Part} (hn:ps.length < 100000):
  zdn [.agg [.int .i64 g.l,.int .i64 g.d,.int .i64 g.c],.int .i64 row,.sl tg (pL ps)]=some (solD (zvO g row (ps.map (·.2)))):=by
 rw [zwg,zdc]
 have hlen:(ps.map fun x=>(zb0 x.1 x.2,x.2)).length=ps.length:=by simp
 have hm:(ps.map fun x=>(zb0 x.1 x.2,x.2)).map (·.2)=ps.map (·.2):=by rw [List.map_map]; rfl
 rw [←hlen] at hn;rw [←hm]
 generalize (ps.map fun x=>(zb0 x.1 x.2,x.2))=rs at*
 clear hm hlen ps;unfold zp9 zvO;cases h:zcv g row
 ·simp [zn5,h,solD]
 by_cases hl:(rs.length:Int)=g.width
 ·have hall:((rs.map (·.2)).all fun x=>decide (x.length=32))=(rs.all fun x=>decide (x.2.length=32)):=by rw [List.all_map]; rfl
  rw [hall]
  cases hs:(rs.all fun x=>decide (x.2.length=32))
  ·simp [zn5,h,solD,zmq,hl,row_sectors _ _ hn,hs]
  ·have hl':∀ x∈rs,x.2.length=32:=fun x hx=>by rw [List.all_eq_true] at hs; simpa using hs x hx
   rw [if_pos ⟨rfl,by simp [hl],rfl⟩]
   obtain ⟨hk,r0,r1⟩:=zbm.1 h;have hw:=zbL hk;have hdd:=ok_d hk
   have hb:((((pL rs).length:Nat):Int) != g.width)=false:=by simp [hl]
   have hrl:rs.length=g.width.toNat:=by omega
   rw [zn5,zad,zch,h,Bool.not_true,zaq,zmq,zad,za3,hb,zaq,row_sectors _ _ hn,zad,zch,hs,Bool.not_true,zaq,zaa (by omega),zaa (by rfl),zaa (by omega),zaa (by omega),zaa (by simp)]
   let st:Nat→(Int×List D×(Int×Int×Int×PUnit)×List D×List D×Int×Int×PUnit)×PUnit:=fun k=>((row,pL rs,(g.l,g.d,g.c,PUnit.unit),pL (zhU g row (rs.map (·.2)) k),pL rs,((pL rs).length:Int),(k:Int),PUnit.unit),PUnit.unit)
   have hst:st 0=((row,pL rs,(g.l,g.d,g.c,PUnit.unit),List.replicate g.d.toNat (D.sl .nil []),pL rs,((pL rs).length:Int),0,PUnit.unit),PUnit.unit):=by
    simp only [st,zhU,zAr]; rfl
   rw [←hst]
   refine zca st rs.length (by omega) ?_ ?_
   ·intro again k hk';dsimp only [st];obtain ⟨x,hx⟩:∃ x,rs[k]? =some x:=⟨_,List.getElem?_eq_getElem hk'⟩;have hxs:=hl' x (List.mem_of_getElem? hx)
    have hxe:rs[k]=x:=by rw [List.getElem?_eq_getElem hk'] at hx; exact Option.some.inj hx
    have hdi:=zjH h (k:=(k:Int)) (by omega) (by omega)
    have hfl:=zfK g row (rs.map (·.2)) k
    obtain ⟨y,hy⟩:∃ y,(zhU g row (rs.map (·.2)) k)[(zc7 g row (k:Int)).toNat]? =some y:=⟨_,List.getElem?_eq_getElem (by omega)⟩
    have hgd:(rs.map (·.2)).getD k []=x.2:=by simp [List.getD_eq_getElem?_getD,hx]
    have hgx:(pL rs)[k]? =some (.sl x.1 (uL x.2)):=zcR hx
    have hlt:(zc7 g row (k:Int)).toNat < g.d.toNat:=by omega
    simp (disch:=first | omega | assumption | (simp; done) | fail) [-List.all_eq_true,hk',zal hgx,ztj,ztd (show x.2.length≤4294967296 by omega),hdi.1,hfl,hlt,zal (zcR hy),zka,zah,zqP,zhU]
    rw [hxe]
   ·intro again;dsimp only [st];obtain ⟨p0,p1,p2⟩:=zsF h
    have hfl:=zfK g row (rs.map (·.2)) rs.length
    obtain ⟨y,hy⟩:∃ y,(zhU g row (rs.map (·.2)) rs.length)[(parP g row).1.toNat]? =some y:=⟨_,List.getElem?_eq_getElem (by omega)⟩
    have hrp:=zDc (n:=32) .lent (ps:=rs) (by omega) (by omega) (by omega) hl'
    have hrq:=zDd (n:=32) .lent (ps:=rs) (by omega) (by omega) (by omega) hl'
    have hff:=zuV h (rs.map (·.2)) (sumP 32 (rs.map (·.2))) (sumQ 32 (rs.map (·.2))) rfl (.inl rfl)
    have hfree:=zrt (zuU g row (rs.map (·.2)) rs.length) (parP g row).1.toNat (sumP 32 (rs.map (·.2)))
    have hfree2:=zrt hfree (parP g row).2.toNat (sumQ 32 (rs.map (·.2)))
    have hlt:(parP g row).1.toNat < g.d.toNat:=by omega
    unfold zBh at hff;rw [←hrl] at hff;rcases p2 with ⟨p2,_⟩ | ⟨q0,q1,_⟩
    ·rw [if_pos (by omega)] at hff
     have hq:¬ (0≤(parP g row).2):=by omega
     simp (disch:=first | omega | assumption | (simp; done) | fail) [-List.all_eq_true,zmp,hrp,p0,hfl,hlt,zal (zcR hy),zka,hq,zqP,zl2 hfree,solD,hff,zfJ]
    ·rw [if_neg (by omega)] at hff
     have hlt2:(parP g row).2.toNat < g.d.toNat:=by omega
     obtain ⟨z,hz⟩:∃ z,((zhU g row (rs.map (·.2)) rs.length).set (parP g row).1.toNat (Tag.fresh,sumP 32 (rs.map (·.2))))[(parP g row).2.toNat]? =some z:=⟨_,List.getElem?_eq_getElem (by simp [hfl]; omega)⟩
     simp (disch:=first | omega | assumption | (simp; done) | fail) [-List.all_eq_true,zmp,hrp,hrq,p0,q0,hfl,hlt,hlt2,zal (zcR hy),zal (zcR hz),zka,zqP,zl2 hfree,zl2 hfree2,solD,hff,zfJ]
 ·have h2:¬ (true=true∧(((rs.map (·.2)).length:Nat):Int)=g.width∧((rs.map (·.2)).all fun x=>decide (x.length=32))=true):=by rintro ⟨_,e,_⟩; simp at e; exact hl e
  rw [if_neg h2];simp [zn5,h,solD,zmq,hl]
end Wf

namespace Wf
open Go Go.RowKit Go.Proofs
set_option linter.unusedSimpArgs false
set_option linter.unusedVariables false
set_option maxHeartbeats 4000000
def zgi (g:Geo) (row:Int) (rs:List Part) (k:Nat):List Part:=(List.range k).map fun (j:Nat)=>rs.getD (zc7 g row (j:Int)).toNat (.nil,[])
theorem zx4 (g:Geo) (row:Int) (rs:List Part):(zgi g row rs g.width.toNat).map (·.2)=zgC g row (rs.map (·.2)):=by
 unfold zgi zgC;rw [List.map_map];apply List.map_congr_left;intro j _;simp [List.getD_eq_getElem?_getD];cases rs[(zc7 g row (j:Int)).toNat]? <;>rfl
theorem zwn (g:Geo) (row:Int) (rs:List Part) {k:Nat} {x:Part} (h:rs[(zc7 g row (k:Int)).toNat]? =some x):zgi g row rs (k+1)=zgi g row rs k++[x]:=by
 unfold zgi;rw [List.range_succ,List.map_append];simp [List.getD_eq_getElem?_getD,h]
theorem zl3 {R:Type} (a b:D) (f:LfT [.any,.any]→Option R):zaz [.any,.any] [a,b] f=f (a,b,()):=by rw [zc4,zc4,zee]
theorem zE6 (g:Geo) (row:Int) (tg:Tag) {ps:List Part} (hn:ps.length < 100000):
  zdm [.agg [.int .i64 g.l,.int .i64 g.d,.int .i64 g.c],.int .i64 row,.sl tg (pL ps)]=some (solD (zvN g row (ps.map (·.2)))):=by
 rw [zwb,zdc]
 have hm:(ps.map fun x=>(zb0 x.1 x.2,x.2)).map (·.2)=ps.map (·.2):=by rw [List.map_map]; rfl
 have hlen:(ps.map fun x=>(zb0 x.1 x.2,x.2)).length=ps.length:=by simp
 rw [←hm];rw [←hlen] at hn
 generalize (ps.map fun x=>(zb0 x.1 x.2,x.2))=rs at*
 clear hm hlen ps;unfold zp3 zvN;cases h:zcv g row
 ·simp [zn5,h,solD]
 by_cases hl:(rs.length:Int)=g.d
 ·rw [if_pos ⟨rfl,by simp [hl]⟩]
  have hk:=(zbm.1 h).1;have hw:=zbL hk;have hdd:=ok_d hk
  have hb:((((pL rs).length:Nat):Int) != g.d)=false:=by simp [hl]
  rw [zn5,zad,zch,h,Bool.not_true,zaq,hb,zaq,zmq,zad,za3]
  let st:Nat→(Int×List D×(Int×Int×Int×PUnit)×List D×Int×Int×PUnit)×PUnit:=fun k=>((row,pL rs,(g.l,g.d,g.c,PUnit.unit),pL (zgi g row rs k),g.width,(k:Int),PUnit.unit),PUnit.unit)
  have hst:st 0=((row,pL rs,(g.l,g.d,g.c,PUnit.unit),[],g.width,0,PUnit.unit),PUnit.unit):=rfl;rw [←hst]
  refine zca st g.width.toNat (by omega) ?_ ?_
  ·intro again k hk';dsimp only [st]
   have hd:(k:Int) < g.width:=by omega
   have hdi:=zjH h (k:=(k:Int)) (by omega) (by omega)
   obtain ⟨x,hx⟩:∃ x,rs[(zc7 g row (k:Int)).toNat]? =some x:=⟨_,List.getElem?_eq_getElem (by omega)⟩
   have hpl:(zgi g row rs k).length=k:=by simp [zgi]
   simp (disch:=first | omega | assumption | (simp; done) | fail) [-List.all_eq_true,hd,ztj,hdi.1,zal (zcR hx),hpl,zah,zDb,zwn g row rs hx]
  ·intro again;dsimp only [st]
   have hd:¬ ((g.width.toNat:Nat):Int) < g.width:=by omega
   obtain ⟨p0,p1,p2⟩:=zsF h
   obtain ⟨xp,hxp⟩:∃ x,rs[(parP g row).1.toNat]? =some x:=⟨_,List.getElem?_eq_getElem (by omega)⟩
   have hpo:pOf g row (rs.map (·.2))=xp.2:=by unfold pOf; simp [List.getD_eq_getElem?_getD,hxp]
   have hrl:(zgi g row rs g.width.toNat).length < 100000:=by simp [zgi]; omega
   have hsol:=fun tq q=>zE0 xp.1 tq .lent xp.2 q hrl
   rw [zx4] at hsol;rw [hpo];rcases p2 with ⟨p2,_⟩ | ⟨q0,q1,_⟩
   ·have hqo:qOf g row (rs.map (·.2))=[]:=by unfold qOf; rw [if_pos (by omega)]
    have hq:(parP g row).2 < 0:=by omega
    have hs:=hsol .nil []
    rw [show uL []=([]:List D) from rfl] at hs
    rw [hqo]
    simp (disch:=first | omega | assumption | (simp; done) | fail) [-List.all_eq_true,zqk,hd,zmp,hq,p0,zal (zcR hxp),hs]
    cases zoA xp.2 [] (zgC g row (rs.map (·.2)))<;>simp [-List.all_eq_true,solD,zfJ]
   ·obtain ⟨xq,hxq⟩:∃ x,rs[(parP g row).2.toNat]? =some x:=⟨_,List.getElem?_eq_getElem (by omega)⟩
    have hqo:qOf g row (rs.map (·.2))=xq.2:=by unfold qOf; rw [if_neg (by omega)]; simp [List.getD_eq_getElem?_getD,hxq]
    have hq:¬ (parP g row).2 < 0:=by omega
    rw [hqo]
    simp (disch:=first | omega | assumption | (simp; done) | fail) [-List.all_eq_true,zqk,hd,zmp,hq,p0,q0,zal (zcR hxp),zal (zcR hxq),hsol]
    cases zoA xp.2 xq.2 (zgC g row (rs.map (·.2)))<;>simp [-List.all_eq_true,solD,zfJ]
 ·have h2:¬ (true=true∧(((rs.map (·.2)).length:Nat):Int)=g.d):=by rintro ⟨_,e⟩; simp at e; exact hl e
  rw [if_neg h2];simp [zn5,h,solD,hl]
theorem zAt (g:Geo) (row:Int) (tg:Tag) {ps:List Part} (hn:ps.length < 100000) (hs:∀ x∈ps,Sec x.2):
  zaM [.agg [.int .i64 g.l,.int .i64 g.d,.int .i64 g.c],.int .i64 row,.sl tg (pL ps)]=some (solD (zvO g row (ps.map (·.2)))):=by
 rw [zlp,zdc]
 have hlen:(ps.map fun x=>(zb0 x.1 x.2,x.2)).length=ps.length:=by simp
 have hm:(ps.map fun x=>(zb0 x.1 x.2,x.2)).map (·.2)=ps.map (·.2):=by rw [List.map_map]; rfl
 have hs':∀ x∈(ps.map fun x=>(zb0 x.1 x.2,x.2)),Sec x.2:=by intro x hx; obtain ⟨y,hy,rfl⟩:=List.mem_map.1 hx; exact hs y hy
 rw [←hlen] at hn;rw [←hm]
 generalize (ps.map fun x=>(zb0 x.1 x.2,x.2))=rs at*
 clear hm hlen hs ps;unfold zfv zvO
 have hsl:∀ x∈rs.map (·.2),Sec x:=by intro x hx; obtain ⟨y,hy,rfl⟩:=List.mem_map.1 hx; exact hs' y hy
 have hl':∀ x∈rs,x.2.length=32:=fun x hx=>(hs' x hx).len
 have hall:((rs.map (·.2)).all fun x=>decide (x.length=32))=true:=by rw [List.all_eq_true]; intro x hx; simpa using (hsl x hx).len
 cases h:zcv g row
 ·simp [ztk,h,solD]
 by_cases hl:(rs.length:Int)=g.width
 ·rw [if_pos ⟨rfl,by simp [hl],hall⟩]
  obtain ⟨hk,r0,r1⟩:=zbm.1 h;have hw:=zbL hk;have hdd:=ok_d hk
  have hb:((((pL rs).length:Nat):Int) != g.width)=false:=by simp [hl]
  have hrl:rs.length=g.width.toNat:=by omega
  rw [ztk,zad,zch,h,Bool.not_true,zaq,zmr,zad,za3,hb,zaq,zaa (by omega),zaa (by rfl),zaa (by omega),zaa (by omega),zaa (by simp)]
  let st:Nat→(Int×List D×(Int×Int×Int×PUnit)×List D×List D×Int×Int×PUnit)×PUnit:=fun k=>((row,pL rs,(g.l,g.d,g.c,PUnit.unit),pL (zhU g row (rs.map (·.2)) k),pL rs,((pL rs).length:Int),(k:Int),PUnit.unit),PUnit.unit)
  have hst:st 0=((row,pL rs,(g.l,g.d,g.c,PUnit.unit),List.replicate g.d.toNat (D.sl .nil []),pL rs,((pL rs).length:Int),0,PUnit.unit),PUnit.unit):=by
   simp only [st,zhU,zAr]; rfl
  rw [←hst]
  refine zca st rs.length (by omega) ?_ ?_
  ·intro again k hk';dsimp only [st];obtain ⟨x,hx⟩:∃ x,rs[k]? =some x:=⟨_,List.getElem?_eq_getElem hk'⟩;have hxs:=hl' x (List.mem_of_getElem? hx)
   have hxe:rs[k]=x:=by rw [List.getElem?_eq_getElem hk'] at hx; exact Option.some.inj hx
   have hdi:=zjH h (k:=(k:Int)) (by omega) (by omega)
   have hfl:=zfK g row (rs.map (·.2)) k
   obtain ⟨y,hy⟩:∃ y,(zhU g row (rs.map (·.2)) k)[(zc7 g row (k:Int)).toNat]? =some y:=⟨_,List.getElem?_eq_getElem (by omega)⟩
   have hgd:(rs.map (·.2)).getD k []=x.2:=by simp [List.getD_eq_getElem?_getD,hx]
   have hgx:(pL rs)[k]? =some (.sl x.1 (uL x.2)):=zcR hx
   have hlt:(zc7 g row (k:Int)).toNat < g.d.toNat:=by omega
   simp (disch:=first | omega | assumption | (simp; done) | fail) [-List.all_eq_true,hk',zal hgx,zDk,hxs,hdi.1,hfl,hlt,zal (zcR hy),zka,zah,zqP,zhU]
   rw [hxe]
  ·intro again;dsimp only [st];obtain ⟨p0,p1,p2⟩:=zsF h
   have hfl:=zfK g row (rs.map (·.2)) rs.length
   obtain ⟨y,hy⟩:∃ y,(zhU g row (rs.map (·.2)) rs.length)[(parP g row).1.toNat]? =some y:=⟨_,List.getElem?_eq_getElem (by omega)⟩
   have hrp:=zI7 (n:=32) .lent (ps:=rs) (by omega) (by omega) (by omega) hl'
   have hrq:=zI8 (n:=32) .lent (ps:=rs) (by omega) (by omega) (by omega) hl'
   rw [zE2 hsl] at hrp
   rw [zE3 hsl (by simp; omega)] at hrq
   have hff:=zuV h (rs.map (·.2)) (sumP 32 (rs.map (·.2))) (sumQ 32 (rs.map (·.2))) rfl (.inl rfl)
   have hfree:=zrt (zuU g row (rs.map (·.2)) rs.length) (parP g row).1.toNat (sumP 32 (rs.map (·.2)))
   have hfree2:=zrt hfree (parP g row).2.toNat (sumQ 32 (rs.map (·.2)))
   have hlt:(parP g row).1.toNat < g.d.toNat:=by omega
   unfold zBh at hff;rw [←hrl] at hff;rcases p2 with ⟨p2,_⟩ | ⟨q0,q1,_⟩
   ·rw [if_pos (by omega)] at hff
    have hq:¬ (0≤(parP g row).2):=by omega
    simp (disch:=first | omega | assumption | (simp; done) | fail) [-List.all_eq_true,zAq,hrp,p0,hfl,hlt,zal (zcR hy),zka,hq,zqP,zl2 hfree,solD,hff,zfJ]
   ·rw [if_neg (by omega)] at hff
    have hlt2:(parP g row).2.toNat < g.d.toNat:=by omega
    obtain ⟨z,hz⟩:∃ z,((zhU g row (rs.map (·.2)) rs.length).set (parP g row).1.toNat (Tag.fresh,sumP 32 (rs.map (·.2))))[(parP g row).2.toNat]? =some z:=⟨_,List.getElem?_eq_getElem (by simp [hfl]; omega)⟩
    simp (disch:=first | omega | assumption | (simp; done) | fail) [-List.all_eq_true,zAq,hrp,hrq,p0,q0,hfl,hlt,hlt2,zal (zcR hy),zal (zcR hz),zka,zqP,zl2 hfree,zl2 hfree2,solD,hff,zfJ]
 ·have h2:¬ (true=true∧(((rs.map (·.2)).length:Nat):Int)=g.width∧((rs.map (·.2)).all fun x=>decide (x.length=32))=true):=by rintro ⟨_,e,_⟩; simp at e; exact hl e
  rw [if_neg h2];simp [ztk,h,solD,zmr,hl]
end Wf

namespace Wf
open Go Go.RowKit Go.Proofs
set_option linter.unusedSimpArgs false
set_option linter.unusedVariables false
set_option maxHeartbeats 4000000
theorem zhe (live:List Bool):D.lentL (live.map D.bool)=live.map D.bool:=by
 induction live with
 | nil=>rfl
 | cons x l ih=>simp [ih]
theorem zpn (acts:Nat→List Act):∀ (n k:Nat) (B:Ben),runE (fun k B=>runA (acts k) B) k n B=runA ((List.range' k n).flatMap acts) B
 | 0,k,B=>rfl
 | n+1,k,B=>by
  rw [List.range'_succ,List.flatMap_cons,znu]
  show (if (runA (acts k) B).1=0 then _ else _)=_
  rw [zpn acts n (k+1)]
theorem zru (a:Act) (B:Ben):runA [a] B=B.act a:=by
 rw [zlf]
 by_cases h:(B.act a).1=0
 ·rw [if_pos h];show (0,(B.act a).2)=B.act a;rw [←h]
 ·rw [if_neg h]
section
variable {B:Ben} {d a e:Int} {x:List Int}
theorem ztm {s:DS} (hd:B.is d=true) (hf:s.failed=(B.dk d).failed):(B.setD d s).failed e=B.failed e:=by
 unfold Ben.failed;rw [zyT];cases he:B.is e
 ·rfl
 ·rw [zhw hd (zfN.1 he).1];split
  ·rename_i q; subst q; rw [hf]
  ·rfl
theorem zuW (B:Ben) (d a:Int) (x:List Int):(B.write d a x).2.n=B.n∧∀ e,(B.write d a x).2.failed e=B.failed e:=by
 unfold Ben.write;split
 ·exact ⟨rfl,fun _=>rfl⟩
 ·rename_i h0;have hd:=(may0.1 (Classical.not_not.1 h0)).1;split
  ·exact ⟨rfl,fun _=>rfl⟩
  ·split
   ·exact ⟨rfl,fun _=>rfl⟩
   ·exact ⟨by simp,fun e=>ztm (B:=(B.junk _).less) hd rfl⟩
theorem zuX (hB:B.Ok) (d:Int):(B.flush d).2.n=B.n∧∀ e,(B.flush d).2.failed e=B.failed e:=by
 unfold Ben.flush;split
 ·exact ⟨rfl,fun _=>rfl⟩
 ·rename_i h0;have hd:=(may0.1 (Classical.not_not.1 h0)).1
  refine ⟨by simp,fun e=>ztm hd ?_⟩
  unfold DS.flush;split
  ·rfl
  ·exact zm0 (zmv hB d).1
def Like (B B':Ben):Prop:=B'.n=B.n∧∀ e,B'.failed e=B.failed e
theorem Like.refl (B:Ben):Like B B:=⟨rfl,fun _=>rfl⟩
theorem Like.trans {A B C:Ben} (h1:Like A B) (h2:Like B C):Like A C:=⟨h2.1.trans h1.1,fun e=>(h2.2 e).trans (h1.2 e)⟩
theorem Like.up {B B':Ben} (h:Like B B') (live:List Bool) (e:Int):B'.up live e=B.up live e:=by unfold Ben.up; rw [h.1,h.2]
theorem zIp {B:Ben} {live:List Bool} {d:Int} (h:B.up live d=true):d < B.n:=by
 unfold Ben.up at h;simp only [Bool.and_eq_true,decide_eq_true_eq] at h;exact h.1
end
section
variable {T0 T1:Tb} {b:Nat} {idx:List Nat} {B:Ben}
theorem zqR (h:At T0 T1 b idx B) (hw:B.w≤999000) (tg:Tag) (live:List Bool) (g:Geo) (r:Int) (tg2:Tag) {ps:List Part} (hn:ps.length < 100000) (hs:∀ x∈ps,Sec x.2):
  zb7 [.h kB b 0,.sl tg (live.map D.bool),.agg [.int .i64 g.l,.int .i64 g.d,.int .i64 g.c],.int .i64 r,.sl tg2 (pL ps)] [P0 T0 b idx B,P1 T1 idx B]=
   some (Ans.mk (.int .i64 (B.sWrite live g r (ps.map (·.2))).1) [] [P0 T0 b idx (B.sWrite live g r (ps.map (·.2))).2,P1 T1 idx (B.sWrite live g r (ps.map (·.2))).2]):=by
 rw [zqd,zhe,zdc]
 have hlen:(ps.map fun x=>(zb0 x.1 x.2,x.2)).length=ps.length:=by simp
 have hm:(ps.map fun x=>(zb0 x.1 x.2,x.2)).map (·.2)=ps.map (·.2):=by rw [List.map_map]; rfl
 have hs':∀ x∈(ps.map fun x=>(zb0 x.1 x.2,x.2)),Sec x.2:=by intro x hx; obtain ⟨y,hy,rfl⟩:=List.mem_map.1 hx; exact hs y hy
 rw [←hlen] at hn;rw [←hm]
 generalize (ps.map fun x=>(zb0 x.1 x.2,x.2))=rs at*
 clear hm hlen hs ps;unfold ziB Ben.sWrite;have hfill:=zE5 g r .lent hn
 cases hf:zvO g r (rs.map (·.2)) with
 | none=>
  rw [hf] at hfill
  simp [hfill,solD]
 | some o=>
  have hf0:=hf;unfold zvO at hf0;split at hf0
  rotate_left
  ·cases hf0
  rename_i hc;obtain ⟨hr,hlw,hall⟩:=hc;cases hf0
  have hR:Row g (rs.map (·.2)):=⟨hlw,by intro x hx; obtain ⟨y,hy,rfl⟩:=List.mem_map.1 hx; exact hs' y hy⟩
  generalize rs.map (·.2)=data at*
  rw [hf] at hfill;obtain ⟨hk,r0,r1⟩:=zbm.1 hr;have hdd:=ok_d hk
  rw [if_neg (by simp)]
  have hrl:=zpJ g r data
  let acts:Nat→List Act:=fun d=>if B.up live d then [.w d (36+r) (atR g r data d)] else []
  have hacts:B.wActs live g r data=(List.range' 0 g.d.toNat).flatMap acts:=by unfold Ben.wActs; rw [List.range_eq_range']
  rw [hacts,←zpn]
  let st:Nat→Ben→(Nat×List D×Int×List D×Int×Int×PUnit)×List (List D)×List (List D)×PUnit:=fun k B'=>((b,live.map D.bool,r,pL (fP (zcO g r data)),(g.d.toNat:Int),(k:Int),PUnit.unit),P0 T0 b idx B',P1 T1 idx B',PUnit.unit)
  have hst:st 0 B=((b,live.map D.bool,r,pL (fP (zcO g r data)),(g.d.toNat:Int),0,PUnit.unit),P0 T0 b idx B,P1 T1 idx B,PUnit.unit):=rfl
  simp (disch:=first | omega | assumption | (simp; done) | fail) only [hfill,solD,zad,zdX,zl3,zbA,zch,Bool.not_true,zaq,zaa,Nat.zero_add,Nat.le_refl,ztf,zDh,hrl]
  rw [←hst]
  refine zoC (fun k B'=>runA (acts k) B') (fun k B'=>Nx k B B'∧Like B B') st (fun y=>some (Ans.mk (.int .i64 y.1) [] [P0 T0 b idx y.2,P1 T1 idx y.2])) g.d.toNat (by omega) ⟨.rfl' h.ok (by omega),.refl B⟩ ?_ ?_ ?_
  ·rintro k B' hk' ⟨hx,hL⟩ he
   dsimp only [acts] at he ⊢
   have hsec:=zxB hr hR (d:=(k:Int)) (by omega) (by omega)
   cases hu:B.up live (k:Int)
   ·exact ⟨hx.mono (by omega),hL⟩
   ·rw [if_pos rfl,zru]
    exact ⟨(hx.trans (zz7 hx.ok (.inl hsec))).mono (by omega),hL.trans (zuW ..)⟩
  ·rintro again k B' hk' ⟨hx,hL⟩
   dsimp only [st];have hA:=h.nx hx;have hxw:=hx.w
   have hw':B'.w≤1000000:=by omega
   have hg:(pL (fP (zcO g r data)))[k]? =some (.sl .fresh (uL (atR g r data k))):=zcR (zuR (zi2 (by omega)))
   have hup:=zEV hA .lent live (d:=(k:Int)) (by omega)
   rw [hL.up] at hup
   by_cases hu:B.up live (k:Int)=true
   rotate_left
   ·have hu':B.up live (k:Int)=false:=by simpa using hu
    rw [hu'] at hup
    rw [show acts k=[] from if_neg hu]
    simp (disch:=first | omega | assumption | (simp; done) | fail) [hk',hrl,zal hg,hup,zah,runA]
   ·rw [hu] at hup
    rw [show acts k=[.w k (36+r) (atR g r data k)] from if_pos hu,zru]
    have hwr:=zGU hA hw' (k:Int) (36+r) .fresh (atR g r data k)
    by_cases he:(B'.write k (36+r) (atR g r data k)).1=0
    ·simp (disch:=first | omega | assumption | (simp; done) | fail) [hk',hrl,zal hg,hup,zah,hwr,he,Ben.act]
    ·simp (disch:=first | omega | assumption | (simp; done) | fail) [hk',hrl,zal hg,hup,zah,hwr,he,Ben.act]
  ·rintro again B' ⟨hx,hL⟩
   dsimp only [st];simp
theorem zqS (h:At T0 T1 b idx B) (hw:B.w≤999000) (tg:Tag) (live:List Bool):
  zb8 [.h kB b 0,.sl tg (live.map D.bool)] [P0 T0 b idx B,P1 T1 idx B]=some (Ans.mk (.int .i64 (B.sFlush live).1) [] [P1 T1 idx (B.sFlush live).2]):=by
 rw [zqg,zhe];unfold ziC Ben.sFlush
 let acts:Nat→List Act:=fun d=>if B.up live d then [.f d] else []
 have hacts:B.fActs live=(List.range' 0 B.ds.length).flatMap acts:=by unfold Ben.fActs; rw [List.range_eq_range']
 have hsm:=h.ok.small;rw [hacts,←zpn]
 let st:Nat→Ben→(Nat×List D×Int×Int×PUnit)×List (List D)×List (List D)×PUnit:=fun k B'=>((b,live.map D.bool,(B.ds.length:Int),(k:Int),PUnit.unit),P0 T0 b idx B,P1 T1 idx B',PUnit.unit)
 have hst:st 0 B=((b,live.map D.bool,(B.ds.length:Int),0,PUnit.unit),P0 T0 b idx B,P1 T1 idx B,PUnit.unit):=rfl;have hl:=zC8 h;unfold Ben.n at hl
 simp (disch:=first | omega | assumption | (simp; done) | fail) only [hl,zad,zci,za3]
 rw [←hst]
 refine zoC (fun k B'=>runA (acts k) B') (fun k B'=>Nx 0 B B'∧Like B B'∧P0 T0 b idx B'=P0 T0 b idx B) st (fun y=>some (Ans.mk (.int .i64 y.1) [] [P1 T1 idx y.2])) B.ds.length (by omega) ⟨.rfl' h.ok (by omega),.refl B,rfl⟩ ?_ ?_ ?_
 ·rintro k B' hk' ⟨hx,hL,h0⟩ he
  dsimp only [acts] at he ⊢;cases hu:B.up live (k:Int)
  ·exact ⟨hx,hL,h0⟩
  ·rw [if_pos rfl,zru]
   refine ⟨(hx.trans (zz8 hx.ok)).mono (by omega),hL.trans (zuX hx.ok _),?_⟩
   show P0 T0 b idx (B'.flush k).2=_;rw [←h0];unfold Ben.flush;split<;>rfl
 ·rintro again k B' hk' ⟨hx,hL,h0⟩
  dsimp only [st];have hA:=h.nx hx;have hxw:=hx.w
  have hw':B'.w≤1000000:=by omega
  have hup:=zEV hA .lent live (d:=(k:Int)) (by omega)
  rw [hL.up,h0] at hup
  by_cases hu:B.up live (k:Int)=true
  rotate_left
  ·have hu':B.up live (k:Int)=false:=by simpa using hu
   rw [hu'] at hup
   rw [show acts k=[] from if_neg hu]
   simp (disch:=first | omega | assumption | (simp; done) | fail) [hk',hup,zah,runA]
  ·rw [hu] at hup
   rw [show acts k=[.f k] from if_pos hu,zru]
   have hfl:=zGV hA hw' (k:Int);rw [h0] at hfl
   by_cases he:(B'.flush k).1=0
   ·simp (disch:=first | omega | assumption | (simp; done) | fail) [hk',hup,zah,hfl,he,Ben.act]
   ·simp (disch:=first | omega | assumption | (simp; done) | fail) [hk',hup,zah,hfl,he,Ben.act]
 ·rintro again B' ⟨hx,hL,h0⟩
  dsimp only [st];simp
end
end Wf

namespace Wf
open Go Go.RowKit Go.Proofs
set_option linter.unusedSimpArgs false
set_option linter.unusedVariables false
set_option maxHeartbeats 4000000
theorem zFN (l:List Int):(D.sl .fresh (uL l)).free=true:=by simp only [D.free,zrn]
theorem zDm {p q:List Int} {ls o:List (List Int)} (h:zoA p q ls=some o):o.length=ls.length:=by
 unfold zoA at h;split at h
 ·cases h
 split at h
 ·cases h
 split at h
 ·cases h; simp [zda]
 ·split at h
  ·cases h; simp [zda]
  ·cases h; simp [zda]
 ·cases h; simp [zda]
theorem zE7 {g:Geo} {r:Int} {ls o:List (List Int)} (h:zvN g r ls=some o):o.length=g.width.toNat:=by
 unfold zvN at h;split at h
 ·rw [zDm h]; simp [zgC]
 ·cases h
theorem zDn {g:Geo} {r j k:Int} (h:zcv g r=true) (j0:0≤j) (j1:j < g.width) (k0:0≤k) (k1:k < g.width) (e:numP g r j=numP g r k):j=k:=by
 have h1:=zCT h j0 j1;have h2:=zCT h k0 k1;rw [e,h2] at h1;injection h1 with h1 _;exact zsE h j0 j1 k0 k1 h1.symm
theorem zDo {g:Geo} {n:Int} (n0:0≤n) (n1:n < g.cap):numP g (rowG g n) (zdq g n)=n:=by
 have hk:=zuF n0 n1;have hw:=zbL hk;have hc:=(zdE.1 hk).2.2;rw [zCR] at n1;unfold numP rowG zdq;generalize g.c=c at*;generalize g.width=w at*
 have hw:w=2∨w=3∨w=4∨w=5∨w=6∨w=7:=by omega
 rcases hc with rfl | rfl | rfl<;>rcases hw with rfl | rfl | rfl | rfl | rfl | rfl<;>omega
section
variable {T0 T1:Tb} {b:Nat} {idx:List Nat} {B:Ben}
theorem zG1 {live:List Bool} {d a:Int} (hdn:B.down=false) (d0:0≤d) (hu:B.up live d=true) (a0:0≤a) (a1:a < 52):B.read d a=(B.cur d a,0):=by
 obtain ⟨h1,h2,_⟩:=zEC d0 hu;rw [ziZ h1] at h2;unfold Ben.read
 rw [if_neg (by rw [may0.2 ⟨h1,hdn⟩]; simp)]
 unfold DS.read
 rw [if_neg (by rw [znt.2 ⟨h2,a0,a1⟩]; simp)]
 rfl
theorem zDp {live:List Bool} {d:Int} (a:Int) (hdn:B.down=true) (d0:0≤d) (hu:B.up live d=true):B.read d a=([],6):=by
 obtain ⟨h1,h2,_⟩:=zEC d0 hu
 have hm:B.may d=6:=by unfold Ben.may; rw [h1,hdn]; rfl
 unfold Ben.read;rw [hm]; simp
def Ben.secP (B:Ben) (live:List Bool) (r:Int) (n k:Nat):List Part:=(List.range n).map fun (d:Nat)=>if d < k then (if B.up live d then (Tag.fresh,B.cur d (36+r)) else (Tag.nil,[])) else (Tag.nil,[])
theorem zE8 (live:List Bool) (r:Int) (n:Nat):(B.secP live r n n).map (·.2)=B.secs live r n:=by
 unfold Ben.secP Ben.secs;rw [List.map_map];apply List.map_congr_left;intro d hd;have:=List.mem_range.1 hd;simp only [Function.comp_apply,if_pos this];split<;>rfl
@[simp] theorem zwo (live:List Bool) (r:Int) (n k:Nat):(B.secP live r n k).length=n:=by simp [Ben.secP]
theorem zDq (live:List Bool) (r:Int) {n k:Nat} (hk:k < n) (hu:B.up live k=true):(B.secP live r n k).set k (Tag.fresh,B.cur k (36+r))=B.secP live r n (k+1):=by
 apply List.ext_getElem?;intro j;rw [List.getElem?_set];unfold Ben.secP
 by_cases hj:j < n
 ·by_cases hjk:k=j
  ·subst hjk; simp [hj,hu]
  ·rw [if_neg hjk];simp only [List.getElem?_map,List.getElem?_range hj,Option.map_some]
   by_cases h1:j < k
   ·simp only [if_pos h1,if_pos (show j < k+1 by omega)]
   ·simp only [if_neg h1,if_neg (show ¬ j < k+1 by omega)]
 ·have h1:k≠j:=by omega
  rw [if_neg h1,List.getElem?_eq_none (by simp; omega),List.getElem?_eq_none (by simp; omega)]
theorem zDr (live:List Bool) (r:Int) {n k:Nat} (hk:k < n) (hu:B.up live k=false):B.secP live r n k=B.secP live r n (k+1):=by
 unfold Ben.secP;apply List.map_congr_left;intro j hj
 by_cases h1:j < k
 ·simp only [if_pos h1,if_pos (show j < k+1 by omega)]
 ·by_cases hjk:j=k
  ·subst hjk; simp [hu]
  ·simp only [if_neg h1,if_neg (show ¬ j < k+1 by omega)]
theorem zDs (live:List Bool) (r:Int) (n:Nat):pL (B.secP live r n 0)=List.replicate n (D.sl .nil []):=by
 unfold Ben.secP pL;rw [List.map_map];apply List.ext_getElem?;intro j
 by_cases hj:j < n
 ·simp [hj,uL]
 ·rw [List.getElem?_eq_none (by simp; omega),List.getElem?_eq_none (by simp; omega)]
theorem zG2 (live:List Bool) (r:Int) {n k:Nat} (hk:k < n):(B.secP live r n k)[k]? =some (Tag.nil,[]):=by unfold Ben.secP; simp [hk]
theorem ztn (h:At T0 T1 b idx B) (hw:B.w≤1000000) (tg:Tag) (live:List Bool) (g:Geo) (r:Int):
  zck [.h kB b 0,.sl tg (live.map D.bool),.agg [.int .i64 g.l,.int .i64 g.d,.int .i64 g.c],.int .i64 r] [P0 T0 b idx B,P1 T1 idx B]=
   some (Ans.mk (.tup [.sl .own (pL (fP (B.sRead live g r).1)),.int .i64 (B.sRead live g r).2]) [] []):=by
 rw [zq9,zhe];unfold zj3 Ben.sRead
 have hck:zao [.agg [.int .i64 g.l,.int .i64 g.d,.int .i64 g.c]]=some (.int .i64 (if g.ok then 0 else 1)):=zgd g.l g.d g.c
 cases hk:g.ok
 ·have hf:zcv g r=false:=by unfold zcv; rw [hk]; rfl
  rw [hk] at hck;simp [hck,hf]; rfl
 rw [hk] at hck
 by_cases r0:r < 0
 ·have hf:zcv g r=false:=by unfold zcv; rw [hk]; simp; omega
  simp [hck,hf,r0]; rfl
 by_cases r1:r≥16
 ·have hf:zcv g r=false:=by unfold zcv; rw [hk]; simp; omega
  simp [hck,hf,r0,show 16≤r by omega]; rfl
 have hr:zcv g r=true:=zbm.2 ⟨hk,by omega,by omega⟩
 have hdd:=ok_d hk
 rw [if_neg (by simp [hr])]
 have r1':¬ 16≤r:=by omega
 simp (disch:=first | omega | assumption | (simp; done) | fail) only [hck,if_true,zad,za3,zlb,zsr,zaa,List.length_replicate,Nat.zero_add,Nat.le_refl]
 let st:Nat→(Nat×List D×Int×(Int×Int×Int×PUnit)×List D×Int×Int×PUnit)×List (List D)×List (List D)×PUnit:=fun k=>
  ((b,live.map D.bool,r,(g.l,g.d,g.c,PUnit.unit),pL (B.secP live r g.d.toNat k),((g.d.toNat:Nat):Int),(k:Int),PUnit.unit),P0 T0 b idx B,P1 T1 idx B,PUnit.unit)
 have hst:st 0=((b,live.map D.bool,r,(g.l,g.d,g.c,PUnit.unit),List.replicate g.d.toNat (D.sl .nil []),((g.d.toNat:Nat):Int),0,PUnit.unit),P0 T0 b idx B,P1 T1 idx B,PUnit.unit):=by
  simp only [st,zDs]; rfl
 rw [←hst]
 refine zfZ (fun x=>g.d.toNat - x.1.2.2.2.2.2.2.1.toNat) (fun _=>_) (fun x=>∃ k:Nat,k≤g.d.toNat∧(B.down=true→∀ j:Nat,j < k→B.up live j=false)∧x=st k) ?_ ⟨0,by omega,fun _ j hj=>by omega,rfl⟩ (by simp [st]; omega)
 rintro again _ ⟨k,hk',hdn,rfl⟩ hag
 dsimp only [st]
 by_cases hlt:k < g.d.toNat
 ·have hup:=zEV h .lent live (d:=(k:Int)) (by omega)
  by_cases hu:B.up live (k:Int)=true
  ·rw [hu] at hup;cases hdo:B.down
   ·have hrd:=zxX h hw (k:Int) (36+r)
    rw [zG1 hdo (by omega) hu (by omega) (by omega)] at hrd
    have hg:=zG2 (B:=B) live r hlt
    have:=hag (st (k+1)) ⟨k+1,by omega,fun e=>(by rw [hdo] at e; cases e),rfl⟩ (by simp [st]; omega)
    dsimp only [st] at this;rw [←zDq live r hlt hu] at this
    simp (disch:=first | omega | assumption | (simp; done) | fail) [hlt,hup,hrd,zah,zwo,zal (zcR hg),zka,zqP]
    rw [show ((k+1:Nat):Int)=(k:Int)+1 by omega] at this
    simpa [hdo] using this
   ·have hrd:=zxX h hw (k:Int) (36+r)
    rw [zDp (36+r) hdo (by omega) hu] at hrd
    have hany:(List.range g.d.toNat).any (fun (d:Nat)=>B.up live d)=true:=by
     rw [List.any_eq_true]; exact ⟨k,List.mem_range.2 hlt,hu⟩
    rw [hany]
    simp (disch:=first | omega | assumption | (simp; done) | fail) [hlt,hup,hrd,zah]
    rfl
  ·have hu':B.up live (k:Int)=false:=by simpa using hu
   rw [hu'] at hup
   have:=hag (st (k+1)) ⟨k+1,by omega,fun e j hj=>by
    by_cases ej:j=k
    ·subst ej; exact hu'
    ·exact hdn e j (by omega),rfl⟩ (by simp [st]; omega)
   dsimp only [st] at this;rw [←zDr live r hlt hu'] at this
   rw [show ((k+1:Nat):Int)=(k:Int)+1 by omega] at this
   simp (disch:=first | omega | assumption | (simp; done) | fail) [hlt,hup,zah]
   simpa using this
 ·have hke:k=g.d.toNat:=by omega
  have hno:¬ (B.down=true∧(List.range g.d.toNat).any (fun (d:Nat)=>B.up live d)=true):=by
   rintro ⟨e1,e2⟩
   rw [List.any_eq_true] at e2;obtain ⟨j,hj,hu⟩:=e2
   rw [hdn e1 j (by rw [hke]; exact List.mem_range.1 hj)] at hu; cases hu
  rw [if_neg hno]
  have htk:=zE6 g r .lent (ps:=B.secP live r g.d.toNat g.d.toNat) (by rw [zwo]; omega)
  rw [zE8] at htk;subst hke
  simp (disch:=first | omega | assumption | (simp; done) | fail) [-List.all_eq_true,zqk,zwo,htk]
  cases zvN g r (B.secs live r g.d.toNat) with
  | none=>simp [-List.all_eq_true,solD]; rfl
  | some o=>simp [-List.all_eq_true,solD,zfJ]
def Ben.oneT (B:Ben) (live:List Bool) (g:Geo) (n:Int):Tag:=
 if (ofP g n).2.2=false then .nil
 else if B.up live (ofP g n).1 then .fresh
 else if (B.sRead live g (ofP g n).2.1).2≠0 then .nil
 else .fresh
theorem zBi (h:At T0 T1 b idx B) (hw:B.w≤1000000) (tg:Tag) (live:List Bool) (g:Geo) (n:Int):
  zcF [.h kB b 0,.sl tg (live.map D.bool),.agg [.int .i64 g.l,.int .i64 g.d,.int .i64 g.c],.int .i64 n] [P0 T0 b idx B,P1 T1 idx B]=
   some (Ans.mk (.tup [.sl (B.oneT live g n) (uL (B.sOne live g n).1),.int .i64 (B.sOne live g n).2]) [] []):=by
 rw [zs6,zhe];unfold zlM Ben.sOne Ben.oneT;have hof:=zDl g n
 by_cases hc:0≤n∧n < g.cap
 ·have ho:ofP g n=(zc7 g (rowG g n) (zdq g n),rowG g n,true):=by unfold ofP; rw [if_pos hc]
  have hk:=zuF hc.1 hc.2;have hrf:=zrq hc.1 hc.2;have hr:zcv g (rowG g n)=true:=zbm.2 ⟨hk,hrf.1,hrf.2.1⟩;have hcol:0≤zdq g n∧zdq g n < g.width:=zGO hk (n / g.c);have hdi:=zjH hr hcol.1 hcol.2;have hw2:=zbL hk;rw [ho] at hof ⊢;have hup:=zEV h .lent live (d:=zc7 g (rowG g n) (zdq g n)) hdi.1;have hrd:=zxX h hw (zc7 g (rowG g n) (zdq g n)) (36+rowG g n);have hsr:=ztn h hw .lent live g (rowG g n);dsimp only at hof ⊢
  by_cases hu:B.up live (zc7 g (rowG g n) (zdq g n))=true
  ·rw [hu] at hup
   simp (disch:=first | omega | assumption | (simp; done) | fail) [-List.all_eq_true,hof,hup,hrd,zah,hu,zFN]
  ·have hu':B.up live (zc7 g (rowG g n) (zdq g n))=false:=by simpa using hu
   rw [hu'] at hup
   by_cases he:(B.sRead live g (rowG g n)).2=0
   ·have hlen:(B.sRead live g (rowG g n)).1.length=g.width.toNat:=by
     unfold Ben.sRead at he ⊢
     rw [if_neg (by simp [hr])] at he ⊢
     split
     ·rename_i hx; rw [if_pos hx] at he; exact absurd he (by decide)
     ·rename_i hx;rw [if_neg hx] at he
      cases ht:zvN g (rowG g n) (B.secs live (rowG g n) g.d.toNat) with
      | none=>rw [ht] at he; exact absurd he (by decide)
      | some o=>exact zE7 ht
    have hnums:=ztl g (rowG g n)
    have hnd:zoG g (rowG g n)=numD g (rowG g n) g.width.toNat:=by unfold zoG; rw [if_pos hr]
    rw [hnd] at hnums;rw [he] at hsr
    simp (disch:=first | omega | assumption | (simp; done) | fail) only [hof,zad,zdX,zc4,zee,za3,zch,Bool.not_true,zaq,hup,zci,hsr,zbA,zlb,hnums,zaa,Nat.zero_add,Nat.le_refl,zfp,hu',he,if_true,if_false,ne_eq,not_true_eq_false,Bool.false_eq_true,reduceCtorEq]
    generalize (B.sRead live g (rowG g n)).1=out at*
    let s2:Nat→(Int×List D×List D×Int×Int×PUnit)×List (List D)×List (List D)×PUnit:=fun j=>((n,pL (fP out),numD g (rowG g n) g.width.toNat,((g.width.toNat:Nat):Int),(j:Int),PUnit.unit),P0 T0 b idx B,P1 T1 idx B,PUnit.unit)
    show zb3 _ (s2 0)=_
    refine zca s2 (zdq g n).toNat (by omega) ?_ ?_
    ·intro again j hj;dsimp only [s2]
     have hne:¬ numP g (rowG g n) j=n:=by
      intro e
      have:=zDn hr (j:=(j:Int)) (k:=zdq g n) (by omega) (by omega) hcol.1 hcol.2 (by rw [e,zDo hc.1 hc.2])
      omega
     have hgn:(numD g (rowG g n) g.width.toNat)[j]? =some (.int .i64 (numP g (rowG g n) j)):=zoH g (rowG g n) g.width.toNat (by omega)
     have hlt:(j:Int) < ((g.width.toNat:Nat):Int):=by omega
     have hlt2:j < g.width.toNat:=by omega
     simp (disch:=first | omega | assumption | (simp; done) | fail) [-List.all_eq_true,hlt,hlt2,zfp,zal hgn,hne,zah]
    ·intro again;dsimp only [s2]
     have hgn:(numD g (rowG g n) g.width.toNat)[(zdq g n).toNat]? =some (.int .i64 (numP g (rowG g n) ((zdq g n).toNat:Int))):=zoH g (rowG g n) g.width.toNat (by omega)
     rw [show (((zdq g n).toNat:Nat):Int)=zdq g n by omega,zDo hc.1 hc.2] at hgn
     have hgo:(pL (fP out))[(zdq g n).toNat]? =some (.sl .fresh (uL (out.getD (zdq g n).toNat []))):=ztg (by omega)
     rw [show (((zdq g n).toNat:Nat):Int)=zdq g n by omega]
     have hlt:zdq g n < ((g.width.toNat:Nat):Int):=by omega
     have hlt2:(zdq g n).toNat < g.width.toNat:=by omega
     simp (disch:=first | omega | assumption | (simp; done) | fail) [-List.all_eq_true,hlt,hlt2,hcol.1,zfp,zal hgn,zal hgo,hlen,zFN]
   ·simp (disch:=first | omega | assumption | (simp; done) | fail) [-List.all_eq_true,hof,hup,hsr,hu',he]
    rfl
 ·have ho:ofP g n=(0,0,false):=by unfold ofP; rw [if_neg hc]
  rw [ho] at hof ⊢;simp [hof];rfl
end
end Wf

namespace Wf
open Go Go.RowKit Go.Proofs
set_option linter.unusedSimpArgs false
set_option linter.unusedVariables false
set_option maxHeartbeats 4000000
def zzg (w left:Int) (down:Bool) (hs:List D):List D:=[.int .i64 w,.int .i64 left,.bool down,.sl .own hs]
theorem zzh (m k:Nat):((List.range k).map fun j=>hD (m+j))++[hD (m+k)]=(List.range (k+1)).map fun j=>hD (m+j):=by simp [List.range_succ]
theorem zBj (l:List Nat):zdC (l.map hD)=true:=by simp only [zdC,List.all_map,List.all_eq_true]; intro i _; rfl
theorem zDt (l:List Nat):zgm 1 (l.map hD)=true:=by simp only [zgm,List.all_map,List.all_eq_true]; intro i _; rfl
theorem ztX {α:Type} (k:Nat) (a:α):List.replicate k a++[a]=List.replicate (k+1) a:=by
 rw [List.replicate_succ']
theorem zE9 (T0 T1:Tb) {n:Int} (h0:1≤n) (h1:n≤8):
  zbH [.int .i64 n] [T0,T1]=some (Ans.mk (.tup [.h kB T0.length 0,.int .i64 0]) []
   [T0++[zzg 0 (-1) false ((List.range n.toNat).map fun j=>hD (T1.length+j))],T1++List.replicate n.toNat DS.new.cells]):=by
 rw [ztx];unfold znB
 have d1:decide (n < 1)=false:=by simp; omega
 have d2:decide (n > 8)=false:=by simp; omega
 rw [d1,zaq,d2,zaq,zsp]
 have hn:n=(n.toNat:Int):=by omega
 let st:Nat→(Nat×Int×Int×PUnit)×List (List D)×List (List D)×PUnit:=fun k=>
  ((T0.length,n,(k:Int),PUnit.unit),T0++[zzg 0 (-1) false ((List.range k).map fun j=>hD (T1.length+j))],T1++List.replicate k DS.new.cells,PUnit.unit)
 have h00:st 0=((T0.length,n,0,PUnit.unit),T0++[[D.own0 (D.int IntKind.i64 (0:Int)),D.own0 (D.int IntKind.i64 (-1:Int)),D.own0 (D.bool false),D.own0 (D.sl Tag.nil [])]],T1,PUnit.unit):=by
  simp [st,zzg,D.own0]
 rw [←h00]
 refine zcr st n.toNat (by omega) ?_ ?_
 ·intro again k hk;dsimp only [st]
  have hd:decide ((k:Int) < n)=true:=by simp; omega
  have hrow:(T0++[zzg 0 (-1) false ((List.range k).map fun j=>hD (T1.length+j))])[T0.length]? =some (zzg 0 (-1) false ((List.range k).map fun j=>hD (T1.length+j))):=by simp
  have hnew:=zI5 (T1++List.replicate k DS.new.cells)
  have hl:(T1++List.replicate k DS.new.cells).length=T1.length+k:=by simp
  rw [hl,List.append_assoc,ztX] at hnew;rw [hd,zaX,zal hrow];unfold zzg at hrow ⊢
  rw [zhu,zhu,zhu,zso,zbA,hnew,zad,zci,zex,zci,zaa (by rfl),zaa (by rfl),zal hrow,zhu,zhu,zhu,zso,zbA]
  rw [zaa (by simp; omega),zaa (by rfl),zaa (by rfl),zsp,zyE hrow]
  have hset:=zmh hrow (List.set [D.int .i64 0,.int .i64 (-1),.bool false,.sl .own ((List.range k).map fun j=>hD (T1.length+j))] 3 .undef)
  have hsn:=zzh T1.length k;unfold hD at hsn
  have hH:(List.map (fun j=>hD (T1.length+j)) (List.range k))++[D.h kD (T1.length+k) 0]=(List.range (k+1)).map fun j=>hD (T1.length+j):=hsn
  dsimp only
  rw [zal hset,zaa (by simp),hH,zaa (by simp)]
  have e1:((List.range (k+1)).map fun j=>hD (T1.length+j))=((List.range (k+1)).map fun j=>T1.length+j).map hD:=by rw [List.map_map]; rfl
  rw [e1,zaa (zBj _),zaa (zDt _),zsp,zaF,zah (by omega) (by omega),zef hset,←e1,List.set_set]
  simp [zzg]
 ·intro again;dsimp only [st]
  have hd:decide (((n.toNat:Nat):Int) < n)=false:=by simp; omega
  rw [hd,zaq]
def nIdx (T1:Tb) (n:Nat):List Nat:=(List.range n).map fun j=>T1.length+j
def nT0 (T0 T1:Tb) (n:Nat):Tb:=T0++[bRow (Ben.new n) (nIdx T1 n)]
def nT1 (T1:Tb) (n:Nat):Tb:=T1++List.replicate n DS.new.cells
theorem zG3 (T1:Tb) (n:Nat):((List.range n).map fun j=>hD (T1.length+j))=(nIdx T1 n).map hD:=by unfold nIdx; rw [List.map_map]; rfl
theorem zDu (T0 T1:Tb) {n:Nat} (h8:n≤8):At (nT0 T0 T1 n) (nT1 T1 n) T0.length (nIdx T1 n) (Ben.new n):=by
 refine ⟨by simp [nT0],?_,fun i hi=>?_,by simp [nIdx,Ben.new],zuC h8⟩
 ·unfold List.Nodup nIdx;rw [List.pairwise_map]
  exact List.Pairwise.imp (fun h e=>h (by omega)) (List.nodup_range (n:=n))
 ·unfold nIdx at hi;obtain ⟨j,hj,rfl⟩:=List.mem_map.1 hi;have:=List.mem_range.1 hj;simp [nT1]; omega
theorem zIq (T0 T1:Tb) (n:Nat):P0 (nT0 T0 T1 n) T0.length (nIdx T1 n) (Ben.new n)=nT0 T0 T1 n:=zCN (by unfold nT0; simp)
theorem zIr (T1:Tb) (n:Nat):P1 (nT1 T1 n) (nIdx T1 n) (Ben.new n)=nT1 T1 n:=by
 unfold P1;show putL _ _ _++[]=_;rw [List.append_nil]
 refine zsB fun j i c h1 h2=>?_
 have hj:j < n:=by have:=za4 h1; simpa [nIdx] using this
 have e1:i=T1.length+j:=by
  unfold nIdx at h1;rw [List.getElem?_map,List.getElem?_range hj] at h1;simpa using h1.symm
 have e2:c=DS.new.cells:=by
  have:(Ben.new n).ds.map DS.cells=List.replicate n DS.new.cells:=by unfold Ben.new; simp
  rw [this] at h2;rw [List.getElem?_replicate,if_pos hj] at h2;exact (Option.some.inj h2).symm
 subst e1 e2;unfold nT1
 rw [List.getElem?_append_right (by omega),show T1.length+j - T1.length=j by omega,List.getElem?_replicate,if_pos hj]
theorem zIs (T0 T1:Tb) {n:Nat} (h0:1≤n) (h8:n≤8):
  zbH [.int .i64 n] [T0,T1]=some (Ans.mk (.tup [.h kB T0.length 0,.int .i64 0]) [] [P0 (nT0 T0 T1 n) T0.length (nIdx T1 n) (Ben.new n),P1 (nT1 T1 n) (nIdx T1 n) (Ben.new n)]):=by
 rw [zE9 T0 T1 (by omega) (by omega),zIq,zIr,Int.toNat_natCast,zG3]
 rfl
structure Still (B:Ben):Prop where
 ok:B.Ok
 down:B.down=false
 ds:∀ s∈B.ds,s.failed=false∧s.pend=[]
theorem Still.dk {B:Ben} (h:Still B) (d:Int):(B.dk d).failed=false∧(B.dk d).pend=[]:=by
 unfold Ben.dk
 cases e:B.ds[d.toNat]? with
 | none=>exact ⟨rfl,rfl⟩
 | some s=>exact h.ds s (List.mem_of_getElem? e)
theorem Still.failed {B:Ben} (h:Still B) (d:Int):B.failed d=false:=by unfold Ben.failed; rw [(h.dk d).1,Bool.and_false]
theorem zx5 {n:Nat} (h:n≤8):Still (Ben.new n):=⟨zuC h,rfl,fun s hs=>by
 unfold Ben.new at hs;rw [(List.mem_replicate.1 hs).2]; exact ⟨rfl,rfl⟩⟩
theorem zIt (n:Nat) (d:Int):(Ben.new n).dk d=DS.new:=by
 unfold Ben.dk Ben.new;dsimp only;rw [List.getElem?_replicate];split<;>rfl
theorem zFa {a:Nat} (ha:a < 52):DS.new.base a=zez:=by
 unfold DS.base;show ((List.replicate 1664 (0:Int)).drop (a*32)).take 32=_;rw [List.drop_replicate,List.take_replicate];unfold zez;congr 1;omega
theorem zG4 (n:Nat) (d:Int) {a:Int} (a0:0≤a) (a1:a < 52):(Ben.new n).cur d a=zez:=by
 unfold Ben.cur;rw [zIt];show look [] a (DS.new.base a.toNat)=_
 rw [zro,zFa (by omega)]
section
variable {B:Ben} {d a:Int} {x:List Int}
theorem zx6 (h:Still B) (hx:Sec x):Still (B.damage d a x).2∧(B.damage d a x).2.n=B.n∧(B.damage d a x).2.w=B.w∧(B.damage d a x).2.left=B.left:=by
 refine ⟨⟨(zxv h.ok (.inl hx)).ok,?_,?_⟩,(zxv (d:=d) (a:=a) h.ok (.inl hx)).n,?_,?_⟩
 ·unfold Ben.damage; split<;>exact h.down
 ·unfold Ben.damage;split
  ·intro s hs;rcases List.mem_or_eq_of_mem_set hs with hs | hs
   ·exact h.ds s hs
   ·subst hs;unfold DS.damage;dsimp only;split
    ·exact h.dk d
    ·exact h.dk d
  ·exact h.ds
 ·unfold Ben.damage; split<;>rfl
 ·unfold Ben.damage; split<;>rfl
theorem zBk (h:Still B) (hd:B.is d=true) (a0:0≤a) (a1:a < 52) (hx:Sec x) {e b:Int} (e0:0≤e) (b0:0≤b) (b1:b < 52):
  (B.damage d a x).1=0∧(B.damage d a x).2.cur e b=if e=d∧b=a then x else B.cur e b:=by
 have hk:=h.dk d;have hw:(B.dk d).mayW a x=0:=zCJ (znt.2 ⟨hk.1,a0,a1⟩) hx.len
 have e1:(B.dk d).damage a x=(0,(B.dk d).setSec a.toNat x):=by unfold DS.damage; rw [hw,if_pos rfl]
 unfold Ben.damage;rw [if_pos hd,e1];refine ⟨rfl,?_⟩;unfold Ben.cur;rw [zhw hd e0]
 by_cases he:e=d
 ·subst he;rw [if_pos rfl];have hp:((B.dk e).setSec a.toNat x).pend=[]:=hk.2;unfold DS.sec
  rw [hp,hk.2,zro,zro,zsy (zmv h.ok e).1.len (by omega) hx.len b.toNat (by omega)]
  by_cases hb:b=a
  ·rw [if_pos (by omega),if_pos ⟨rfl,hb⟩]
  ·rw [if_neg (by omega),if_neg (fun q=>hb q.2)]
 ·rw [if_neg he,if_neg (fun q=>he q.1)]
end
def Ben.dmgs (B:Ben) (a:Int) (xs:List (List Int)):Nat→Ben
 | 0=>B
 | k+1=>((B.dmgs a xs k).damage (k:Int) a (xs.getD k [])).2
def rowL (g:Geo) (l:List Int) (r:Nat):List (List Int):=secL (l.drop (min r l.length)) g.width.toNat
theorem zwp {g:Geo} (hk:g.ok=true) (l:List Int) (r:Nat):Row g (rowL g l r):=⟨by have:=zbL hk; simp [rowL]; omega,zAp _ _⟩
def zl4 (gs:Nat→Geo) (l:List Int) (n:Nat):Nat→Ben
 | 0=>.new n
 | r+1=>(zl4 gs l n r).dmgs (36+(r:Int)) (zcO (gs r) r (rowL (gs r) l r)) (min (gs r).d.toNat n)
structure Filld (gs:Nat→Geo) (l:List Int) (n:Nat) (R:Nat) (B:Ben):Prop where
 still:Still B
 num:B.n=n
 w:B.w=0
 left:B.left= -1
 cur:∀ d a:Int,0≤d→0≤a→a < 52→B.cur d a=if 36≤a∧a < 36+R∧d < (gs (a - 36).toNat).d∧d < n then atR (gs (a - 36).toNat) (a - 36) (rowL (gs (a - 36).toNat) l (a - 36).toNat) d else zez
theorem zto {g:Geo} {r:Int} {data:List (List Int)} {d:Nat} (h:(d:Int) < g.d):(zcO g r data).getD d []=atR g r data d:=by
 rw [List.getD_eq_getElem?_getD,zi2 h]; rfl
theorem zqo {gs:Nat→Geo} {l:List Int} {n R:Nat} {B:Ben} (h:Filld gs l n R B) (hR:R < 16) (hk:(gs R).ok=true):∀ k,k≤min (gs R).d.toNat n→
  Still (B.dmgs (36+(R:Int)) (zcO (gs R) R (rowL (gs R) l R)) k)∧(B.dmgs (36+(R:Int)) (zcO (gs R) R (rowL (gs R) l R)) k).n=n∧(B.dmgs (36+(R:Int)) (zcO (gs R) R (rowL (gs R) l R)) k).w=0∧(B.dmgs (36+(R:Int)) (zcO (gs R) R (rowL (gs R) l R)) k).left= -1∧
  ∀ d a:Int,0≤d→0≤a→a < 52→(B.dmgs (36+(R:Int)) (zcO (gs R) R (rowL (gs R) l R)) k).cur d a=if a=36+R∧d < k then atR (gs R) R (rowL (gs R) l R) d else B.cur d a
 | 0,_=>⟨h.still,h.num,h.w,h.left,fun d a d0 a0 a1=>by rw [if_neg (by omega)]; rfl⟩
 | k+1,hk'=>by
  obtain ⟨i1,i2,i3,i4,i5⟩:=zqo h hR hk k (by omega)
  have hr:zcv (gs R) (R:Int)=true:=zbm.2 ⟨hk,by omega,by omega⟩
  have hsec:=zxB hr (zwp hk l R) (d:=(k:Int)) (by omega) (by omega)
  have hg:=zto (g:=gs R) (r:=R) (data:=rowL (gs R) l R) (d:=k) (by omega)
  generalize hB:B.dmgs (36+(R:Int)) (zcO (gs R) R (rowL (gs R) l R)) k=C at*
  have hC:B.dmgs (36+(R:Int)) (zcO (gs R) R (rowL (gs R) l R)) (k+1)=(C.damage (k:Int) (36+(R:Int)) (atR (gs R) R (rowL (gs R) l R) k)).2:=by
   show ((B.dmgs (36+(R:Int)) (zcO (gs R) R (rowL (gs R) l R)) k).damage (k:Int) (36+(R:Int)) ((zcO (gs R) R (rowL (gs R) l R)).getD k [])).2=_;rw [hB,hg]
  rw [hC]
  have hd:C.is (k:Int)=true:=zfN.2 ⟨by omega,by rw [i2]; omega⟩
  obtain ⟨j1,j2,j3,j4⟩:=zx6 (d:=(k:Int)) (a:=36+(R:Int)) i1 hsec
  refine ⟨j1,j2.trans i2,j3.trans i3,j4.trans i4,fun d a d0 a0 a1=>?_⟩
  rw [(zBk i1 hd (by omega) (by omega) hsec d0 a0 a1).2,i5 d a d0 a0 a1]
  by_cases ha:a=36+(R:Int)
  ·by_cases hdk:d=k
   ·subst hdk; rw [if_pos ⟨rfl,ha⟩,if_pos ⟨ha,by omega⟩]
   ·rw [if_neg (fun q=>hdk q.1)]
    by_cases hlt:d < k
    ·rw [if_pos ⟨ha,hlt⟩,if_pos ⟨ha,by omega⟩]
    ·rw [if_neg (fun q=>hlt q.2),if_neg (fun q=>by omega)]
  ·rw [if_neg (fun q=>ha q.2),if_neg (fun q=>ha q.1),if_neg (fun q=>ha q.1)]
theorem zl5 {gs:Nat→Geo} {l:List Int} {n:Nat} (n8:n≤8) (hk:∀ r,(gs r).ok=true):∀ R,R≤16→Filld gs l n R (zl4 gs l n R)
 | 0,_=>⟨zx5 n8,by simp [zl4,Ben.new,Ben.n],rfl,rfl,fun d a d0 a0 a1=>by rw [if_neg (by omega)]; exact zG4 n d a0 a1⟩
 | R+1,hR=>by
  have ih:=zl5 (l:=l) n8 hk R (by omega)
  obtain ⟨i1,i2,i3,i4,i5⟩:=zqo ih (by omega) (hk R) (min (gs R).d.toNat n) (Nat.le_refl _)
  refine ⟨i1,i2,i3,i4,fun d a d0 a0 a1=>?_⟩
  show ((zl4 gs l n R).dmgs (36+(R:Int)) (zcO (gs R) R (rowL (gs R) l R)) (min (gs R).d.toNat n)).cur d a=_;rw [i5 d a d0 a0 a1,ih.cur d a d0 a0 a1];have hdd:=ok_d (hk R)
  by_cases ha:a=36+(R:Int)
  ·have e:(a - 36).toNat=R:=by omega
   have e2:a - 36=(R:Int):=by omega
   rw [e,e2]
   by_cases hlt:d < (gs R).d∧d < n
   ·rw [if_pos ⟨ha,by omega⟩,if_pos ⟨by omega,by omega,hlt.1,hlt.2⟩]
   ·rw [if_neg (fun q=>hlt ⟨by omega,by omega⟩),if_neg (fun q=>by omega),if_neg (fun q=>hlt ⟨q.2.2.1,q.2.2.2⟩)]
  ·rw [if_neg (fun q=>ha q.1)]
   by_cases hc:36≤a∧a < 36+(R:Int)∧d < (gs (a - 36).toNat).d∧d < n
   ·rw [if_pos hc,if_pos ⟨hc.1,by omega,hc.2.2.1,hc.2.2.2⟩]
   ·rw [if_neg hc,if_neg (fun q=>hc ⟨q.1,by omega,q.2.2.1,q.2.2.2⟩)]
end Wf

namespace Wf
open Go Go.RowKit Go.Proofs
set_option linter.unusedSimpArgs false
set_option linter.unusedVariables false
set_option maxHeartbeats 4000000
theorem zDv (l:List Int) (n:Nat):(intL l).drop n=intL (l.drop n):=by simp [intL,List.map_drop]
theorem zuY (l:List Int):zyn 1 (intL l)=true:=by simp [zyn,intL,D.cell,D.width]
theorem zx7 (l:List Int) (r:Int) (r0:0≤r):cutI (min r (l.length:Int)) (l.length:Int) (intL l)=intL (l.drop (min r.toNat l.length)):=by
 unfold cutI
 have:(min r (l.length:Int)).toNat=min r.toNat l.length:=by omega
 rw [this,zDv,List.take_of_length_le (by rw [zgf]; simp; omega)]
theorem zDw (g:Geo) (hk:g.ok=true) (r:Int) (r0:0≤r) (tg:Tag) (l:List Int):
  zbG [.agg [.int .i64 g.l,.int .i64 g.d,.int .i64 g.c],.int .i64 r,.sl tg (intL l)]=some (.sl .own (pL (fP (rowL g l r.toNat)))):=by
 rw [zlX,zou];unfold zfG;have hw:=zbL hk
 have hsp:=fun tg=>zqQ tg (l.drop (min r.toNat l.length)) (n:=g.width.toNat) (by omega)
 rw [show ((g.width.toNat:Nat):Int)=g.width by omega] at hsp
 have hm1:0≤min r (l.length:Int):=by omega
 have hm2:min r (l.length:Int)≤(l.length:Int):=by omega
 have hfree:=zfJ (rowL g l r.toNat);unfold rowL at hfree ⊢
 simp (disch:=first | omega | assumption | (simp; done) | fail) [-List.all_eq_true,zgf,hm1,hm2,zuY,zmr,zx7 l r r0,hsp,hfree]
section
variable {T0 T1:Tb}
theorem zIu {g:Geo} (hk:g.ok=true) {n:Nat} (n0:1≤n) (n8:n≤8) (tg:Tag) (l:List Int):
  zbd [.agg [.int .i64 g.l,.int .i64 g.d,.int .i64 g.c],.int .i64 n,.sl tg (intL l)] [T0,T1]=
   some (Ans.mk (.h kB T0.length 0) [] [P0 (nT0 T0 T1 n) T0.length (nIdx T1 n) (zl4 (fun _=>g) l n 16),P1 (nT1 T1 n) (nIdx T1 n) (zl4 (fun _=>g) l n 16)]):=by
 rw [zjU,zou];unfold zeL;have hat0:=zDu T0 T1 n8;have hnew:=zIs T0 T1 n0 n8;generalize nT0 T0 T1 n=U0 at*;generalize nT1 T1 n=U1 at*;generalize nIdx T1 n=idx at*;have hw:=zbL hk;have hdd:=ok_d hk
 have hF:=fun R hR=>zl5 (gs:=fun _=>g) (l:=l) n8 (fun _=>hk) R hR
 have hat:∀ B:Ben,B.Ok→B.n=n→At U0 U1 T0.length idx B:=fun B hB hn=>⟨hat0.b,hat0.nd,hat0.lt,by rw [hat0.len]; unfold Ben.n at hn; simp [Ben.new]; omega,hB⟩
 simp (disch:=first | omega | assumption | (simp; done) | fail) only [hnew,zad,zci,zex,zdX,zl3,za3,zlb,zCs,zaq,show zhs (D.h kB T0.length 0)=true from rfl,zaa]
 let st:Nat→(Int×List D×(Int×Int×Int×PUnit)×D×Int×PUnit)×List (List D)×List (List D)×PUnit:=fun r=>(((n:Int),intL l,(g.l,g.d,g.c,PUnit.unit),.h kB T0.length 0,(r:Int),PUnit.unit),P0 U0 T0.length idx (zl4 (fun _=>g) l n r),P1 U1 idx (zl4 (fun _=>g) l n r),PUnit.unit)
 show zb3 _ (st 0)=_
 refine zca st 16 (by omega) ?_ ?_
 ·intro again r hr;dsimp only [st]
  have hfine:zcv g (r:Int)=true:=zbm.2 ⟨hk,by omega,by omega⟩
  have hm1:0≤min (r:Int) (l.length:Int):=by omega
  have hm2:min (r:Int) (l.length:Int)≤(l.length:Int):=by omega
  have hsp:=fun tg=>zqQ tg (l.drop (min r l.length)) (n:=g.width.toNat) (by omega)
  rw [show ((g.width.toNat:Nat):Int)=g.width by omega] at hsp
  have hc:=zx7 l (r:Int) (by omega)
  rw [Int.toNat_natCast] at hc
  have hfill:=zAt g (r:Int) .lent (ps:=fP (rowL g l r)) (by simp [rowL]; omega) (by intro x hx; obtain ⟨y,hy,rfl⟩:=List.mem_map.1 hx; exact zAp _ _ y hy)
  rw [zxZ,zi1 hfine (zwp hk l r)] at hfill;have hrl:=zpJ g (r:Int) (rowL g l r)
  have hr16:(r:Int) < 16:=by omega
  unfold rowL at hfill
  simp (disch:=first | omega | assumption | (simp; done) | fail) only [ztv,zaF,zgf,zaa,zuY,zmr,zad,za3,hc,hsp,zbA,zdD,Nat.zero_add,Nat.le_refl,hfill,solD,zdX,zl3,zch]
  have hxs:secL (l.drop (min r l.length)) g.width.toNat=rowL g l r:=rfl;rw [hxs]
  have hFr:=hF r (by omega)
  have hdm:=fun k hk'=>zqo (gs:=fun _=>g) hFr hr hk k hk'
  have hnx:zl4 (fun _=>g) l n (r+1)=(zl4 (fun _=>g) l n r).dmgs (36+(r:Int)) (zcO g r (rowL g l r)) (min g.d.toNat n):=rfl
  rw [hnx]
  generalize zl4 (fun _=>g) l n r=B at*
  have h0:∀ k,k≤min g.d.toNat n→P0 U0 T0.length idx (B.dmgs (36+(r:Int)) (zcO g r (rowL g l r)) k)=P0 U0 T0.length idx B:=by
   intro k hk'
   induction k with
   | zero=>rfl
   | succ k ih=>
    rw [←ih (by omega)]
    show P0 U0 T0.length idx ((B.dmgs (36+(r:Int)) (zcO g r (rowL g l r)) k).damage _ _ _).2=_;unfold Ben.damage;split<;>rfl
  let s2:Nat→(Int×List D×(Int×Int×Int×PUnit)×D×Int×List D×Bool×Int×PUnit)×List (List D)×List (List D)×PUnit:=fun k=>
   (((n:Int),intL l,(g.l,g.d,g.c,PUnit.unit),.h kB T0.length 0,(r:Int),pL (fP (zcO g r (rowL g l r))),true,(k:Int),PUnit.unit),P0 U0 T0.length idx B,P1 U1 idx (B.dmgs (36+(r:Int)) (zcO g r (rowL g l r)) k),PUnit.unit)
  show zb3 _ (s2 0)=_
  refine zca s2 (min g.d.toNat n) (by omega) ?_ ?_
  ·intro again2 k hk';dsimp only [s2]
   obtain ⟨i1,i2,i3,i4,i5⟩:=hdm k (by omega)
   have hA:=hat _ i1.ok i2
   have hg:(pL (fP (zcO g r (rowL g l r))))[k]? =some (.sl .fresh (uL (atR g r (rowL g l r) k))):=zcR (zuR (zi2 (by omega)))
   have hb:=zEW hA (by omega) (k:Int) (a:=36+(r:Int)) (by intro w hw; rw [(i1.dk _).2] at hw; cases hw) .fresh (atR g r (rowL g l r) k)
   rw [h0 k (by omega)] at hb
   have hgd:(zcO g r (rowL g l r)).getD k []=atR g r (rowL g l r) k:=zto (by omega)
   have h1:(k:Int) < ((g.d.toNat:Nat):Int):=by omega
   have h2:(k:Int) < (n:Int):=by omega
   have h3:k < g.d.toNat:=by omega
   simp (disch:=first | omega | assumption | (simp; done) | fail) [hrl,h1,h2,h3,zal hg,hb,zah]
   rw [←hgd]; rfl
  ·intro again2;dsimp only [s2];rw [h0 _ (Nat.le_refl _)]
   by_cases h1:min g.d.toNat n < g.d.toNat
   ·have h2:¬ ((min g.d.toNat n:Nat):Int) < (n:Int):=by omega
    have h1':((min g.d.toNat n:Nat):Int) < ((g.d.toNat:Nat):Int):=by omega
    simp (disch:=first | omega | assumption | (simp; done) | fail) only [zaX,hrl,ztf,zDh,zaa,Nat.zero_add,Nat.le_refl,ztv,zsr,zxo]
    rw [zah (by omega) (by omega)]; rfl
   ·have h1':¬ ((min g.d.toNat n:Nat):Int) < ((g.d.toNat:Nat):Int):=by omega
    simp (disch:=first | omega | assumption | (simp; done) | fail) only [zaX,hrl,ztf,zDh,zaa,Nat.zero_add,Nat.le_refl,zsr,zxo]
    rw [zah (by omega) (by omega)]; rfl
 ·intro again;dsimp only [st]
  simp (disch:=first | omega | assumption | (simp; done) | fail) only [zsr,show (D.h kB T0.length 0).free=true from rfl,zaa]
end
end Wf

namespace Wf
open Go Go.RowKit Go.Proofs
set_option linter.unusedSimpArgs false
set_option linter.unusedVariables false
set_option maxHeartbeats 4000000
theorem zDx {p:Nat→Bool} {a n:Nat} (h:∀ i,i < n→p i=true→i=a):(List.range n).countP p≤1:=by
 have:∀ n,(∀ i,i < n→p i=true→i=a)→(List.range n).countP p≤if a < n then 1 else 0:=by
  intro n
  induction n with
  | zero=>simp
  | succ n ih=>
   intro h
   have ih:=ih fun i hi hp=>h i (by omega) hp
   rw [List.range_succ,List.countP_append,List.countP_singleton]
   by_cases hp:p n=true
   ·rw [if_pos hp]
    have e:=h n (by omega) hp
    subst e; rw [if_neg (by omega)] at ih; rw [if_pos (by omega)]; omega
   ·rw [if_neg hp];split at ih<;>split<;>omega
 have:=this n h;split at this<;>omega
section
variable {B:Ben} {d a:Int}
theorem zFb (hd:B.is d=true) {e b:Int} (e0:0≤e) (hne:e≠d):(B.fail d).2.cur e b=B.cur e b:=by
 unfold Ben.fail;rw [if_pos hd];unfold Ben.cur;rw [zhw hd e0,if_neg hne]
theorem zzi (hd:B.is d=true) {e:Int} (he:B.is e=true):(B.fail d).2.failed e=(decide (e=d) || B.failed e):=by
 unfold Ben.fail;rw [if_pos hd];unfold Ben.failed;rw [zyT,he,zhw hd (zfN.1 he).1]
 by_cases h:e=d
 ·subst h; rw [if_pos rfl,show DS.dead.failed=true from rfl]; simp
 ·rw [if_neg h]; simp [h]
theorem zDy (hd:B.is d=true):(B.fail d).1=0∧(B.fail d).2.n=B.n∧(B.fail d).2.down=B.down∧(B.fail d).2.left=B.left∧(B.fail d).2.w=B.w:=by
 unfold Ben.fail;rw [if_pos hd]
 exact ⟨rfl,by simp,rfl,rfl,rfl⟩
end
theorem zFc {n:Nat} {d:Int} (d0:0≤d):((List.replicate n true)[d.toNat]?).getD false=decide (d < n):=by
 rw [List.getElem?_replicate]
 by_cases h:d < n
 ·rw [if_pos (by omega)]; simp [h]
 ·rw [if_neg (by omega)]; simp [h]
theorem zFO {B:Ben} {n:Nat} (hn:B.n=n) {d:Int} (d0:0≤d):B.up (List.replicate n true) d=(decide (d < n) && !B.failed d):=by
 unfold Ben.up;rw [zFc d0,hn];cases decide (d < (n:Int))<;>simp
theorem zrv (B:Ben) (live:List Bool) (g:Geo) (r:Int) (data:List (List Int)):nW (B.wActs live g r data)≤g.d.toNat:=by
 unfold Ben.wActs
 have:∀ n,nW ((List.range n).flatMap fun (d:Nat)=>if B.up live d then [Act.w d (36+r) (atR g r data d)] else [])≤n:=by
  intro n
  induction n with
  | zero=>simp [nW]
  | succ n ih=>
   rw [List.range_succ,List.flatMap_append,zsD]
   have:nW (List.flatMap (fun (d:Nat)=>if B.up live d then [Act.w d (36+r) (atR g r data d)] else []) [n])≤1:=by
    simp only [List.flatMap_cons,List.flatMap_nil,List.append_nil];split
    ·exact Nat.le_trans (List.length_filter_le _ _) (by simp)
    ·simp [nW]
   omega
 exact this _
theorem zrw (B:Ben) (live:List Bool):nW (B.fActs live)=0:=by
 unfold Ben.fActs nW;rw [List.length_eq_zero_iff,List.filter_eq_nil_iff];intro a ha;obtain ⟨d,_,ha⟩:=List.mem_flatMap.1 ha;split at ha
 ·rw [List.mem_singleton.1 ha]; simp [Act.isW]
 ·cases ha
theorem zzj {B:Ben} (hB:B.Ok) (hd:B.down=false) {live:List Bool} {g:Geo} {r:Int} {data:List (List Int)} (hr:zcv g r=true) (hR:Row g data) (hl:B.left < 0∨8≤B.left):
  B.sWrite live g r data=(0,does B (B.wActs live g r data))∧Does B (B.wActs live g r data):=by
 have hdd:=ok_d (zbm.1 hr).1;have hn:=zrv B live g r data
 have:=zoE (B.wActs live g r data) hB hd (zAg hr hR) (by omega)
 refine ⟨?_,this⟩;unfold Ben.sWrite
 rw [zi1 hr hR,if_neg (by simp),this.run]
theorem zzk {B:Ben} (hB:B.Ok) (hd:B.down=false) (live:List Bool) (hl:B.left < 0∨0≤B.left):B.sFlush live=(0,does B (B.fActs live))∧Does B (B.fActs live):=by
 have:=zoE (B.fActs live) hB hd zvQ (by rw [zrw]; omega)
 exact ⟨this.run,this⟩
theorem zDz {B:Ben} {live:List Bool} (h:Does B (B.fActs live)) {e b:Int} (e0:0≤e) (b0:0≤b) (b1:b < 52):(does B (B.fActs live)).cur e b=B.cur e b:=by
 rw [h.cur e b e0 b0 b1];exact zi0 (zAh e b) _
theorem zDA {B:Ben} {live:List Bool} {g:Geo} {r:Int} {data:List (List Int)} (h:Does B (B.wActs live g r data)) {e b:Int} (e0:0≤e) (e1:e < g.d) (b0:0≤b) (b1:b < 52):
  (does B (B.wActs live g r data)).cur e b=if b=36+r∧B.up live e=true then atR g r data e else B.cur e b:=by
 rw [h.cur e b e0 b0 b1]
 by_cases hc:b=36+r∧B.up live e=true
 ·rw [if_pos hc,hc.1]
  have:=zxC (B:=B) (live:=live) (g:=g) (r:=r) (data:=data) (d:=e.toNat) (by omega) (by rw [show ((e.toNat:Nat):Int)=e by omega]; exact hc.2) B.cur
  rw [show ((e.toNat:Nat):Int)=e by omega] at this
  exact this
 ·rw [if_neg hc];refine zi0 (zyU ?_) _
  by_cases hb:b=36+r
  ·refine .inr ?_;cases hu:B.up live e
   ·rfl
   ·exact absurd ⟨hb,hu⟩ hc
  ·exact .inl hb
end Wf

namespace Wf
open Go Go.RowKit Go.Proofs
set_option linter.unusedSimpArgs false
set_option linter.unusedVariables false
set_option maxHeartbeats 4000000
theorem zBl (l:List Bool):(l.map D.bool).all D.free=true:=by rw [List.all_map,List.all_eq_true]; intro b _; rfl
theorem zBm {d k:Nat} (hk:k < d):((List.range d).map fun i=>D.bool (decide (i < k))).set k (.bool true)=(List.range d).map fun i=>D.bool (decide (i < k+1)):=by
 apply List.ext_getElem?;intro j;rw [List.getElem?_set]
 by_cases hj:j < d
 ·by_cases hjk:k=j
  ·subst hjk; simp [hj]
  ·rw [if_neg hjk];simp only [List.getElem?_map,List.getElem?_range hj,Option.map_some,Option.some.injEq,D.bool.injEq,decide_eq_decide];omega
 ·have h1:k≠j:=by omega
  rw [if_neg h1,List.getElem?_eq_none (by simp; omega),List.getElem?_eq_none (by simp; omega)]
theorem zFd {d:Nat} (h0:1≤d) (h8:d≤8):zbP [.int .i64 0,.int .i64 d]=some (.sl .own ((List.replicate d true).map D.bool)):=by
 rw [zmK];unfold zf5
 rw [zaa (by omega),zaa (by rfl),zaa (by omega),zaa (by omega),zaa (by simp),zaa (by simp),Int.toNat_natCast]
 let st:Nat→(Int×Int×List D×Int×Int×PUnit)×PUnit:=fun k=>((0,(d:Int),(List.range d).map (fun i=>D.bool (decide (i < k))),(d:Int),(k:Int),PUnit.unit),PUnit.unit)
 have hst:st 0=((0,(d:Int),List.replicate d (D.bool false),(d:Int),0,PUnit.unit),PUnit.unit):=by
  have:(List.range d).map (fun i=>D.bool (decide (i < 0)))=List.replicate d (D.bool false):=by
   apply List.ext_getElem?; intro j
   by_cases hj:j < d
   ·simp [hj]
   ·rw [List.getElem?_eq_none (by simp; omega),List.getElem?_eq_none (by simp; omega)]
  simp only [st,this]; rfl
 rw [←hst]
 refine zcr st d (by omega) ?_ ?_
 ·intro again k hk;dsimp only [st]
  have hd:decide ((k:Int) < (d:Int))=true:=by simp; omega
  have hg:((List.range d).map (fun i=>D.bool (decide (i < k))))[k]? =some (.bool false):=by simp [hk]
  rw [hd,zaX,zaa (by omega),zaa (by simp; omega),Nat.zero_add,show Int.toNat (k:Int)=k from rfl,zal hg,zaa (by rfl),zaF,zah (by omega) (by omega),zaa (by simp),zBm hk]
  rfl
 ·intro again;dsimp only [st]
  have hd:decide ((d:Int) < (d:Int))=false:=by simp
  have hd1:decide ((d:Int) > 0)=true:=by simp; omega
  have hall:(List.range d).map (fun i=>D.bool (decide (i < d)))=(List.replicate d true).map D.bool:=by
   apply List.ext_getElem?; intro j
   by_cases hj:j < d
   ·simp [hj]
   ·rw [List.getElem?_eq_none (by simp; omega),List.getElem?_eq_none (by simp; omega)]
  have hz:decide ((0:Int) % 3 > 0)=false:=rfl;have hz2:((0:Int) % 9 == 8)=false:=rfl
  rw [hd,zaq,hd1,zaX,ztb 0 3 (by omega) (by omega),zad,za3,hz,zaq,zaX,ztb 0 9 (by omega) (by omega),zad,za3,hz2,zaq,zaa (by rfl),hall,zaa (zBl _)]
end Wf

namespace Wf
open Go Go.RowKit
universe u
def idf {α:Sort u} (a:α):α:=a
@[simp] theorem zcl {α:Sort u} (a:α):idf a=a:=congrFun (funext fun _=>rfl) a
section
variable {R α β:Type}
@[congr high] theorem zIL {b b':Bool} {x y:Option R} (h:idf b=b'):brK b x y=brK b' x y:=by rw [zcl] at h; rw [h]
@[congr high] theorem zHw {x x':Option α} {f:α→Option R} (h:idf x=x'):zan x f=zan x' f:=by rw [zcl] at h; rw [h]
@[congr high] theorem zIM {c c':Prop} [d:Decidable c] [d':Decidable c'] {x:Option R} (h:idf c=c'):sif c x=sif c' x:=by rw [zcl] at h; subst h; congr
@[congr high] theorem zIv {n n':Int} {f:Int→Option R} (h:idf n=n'):letN n f=letN n' f:=by rw [zcl] at h; rw [h]
@[congr high] theorem zIw {l l':List α} {i i':Nat} {f:α→Option R} (h:idf l=l') (h':idf i=i'):getK l i f=getK l' i' f:=by rw [zcl] at h h'; rw [h,h']
@[congr high] theorem zIN {k:IntKind} {d d':D} {f:Int→Option R} (h:idf d=d'):asI k d f=asI k d' f:=by rw [zcl] at h; rw [h]
@[congr high] theorem zIO {d d':D} {f:Bool→Option R} (h:idf d=d'):asB d f=asB d' f:=by rw [zcl] at h; rw [h]
@[congr high] theorem zIP {d d':D} {f:ByteArray→Option R} (h:idf d=d'):asS d f=asS d' f:=by rw [zcl] at h; rw [h]
@[congr high] theorem zIx {d d':D} {f:Tag→List D→Option R} (h:idf d=d'):asSl d f=asSl d' f:=by rw [zcl] at h; rw [h]
@[congr high] theorem zHx {d d':D} {f:List D→Option R} (h:idf d=d'):zbe d f=zbe d' f:=by rw [zcl] at h; rw [h]
@[congr high] theorem zG5 {d d':D} {f:List D→Option R} (h:idf d=d'):zmX d f=zmX d' f:=by rw [zcl] at h; rw [h]
@[congr high] theorem zHy {d d':D} {f:List D→Option R} (h:idf d=d'):asAgg d f=asAgg d' f:=by rw [zcl] at h; rw [h]
@[congr high] theorem zHz {d d':D} {f:List D→Option R} (h:idf d=d'):zdP d f=zdP d' f:=by rw [zcl] at h; rw [h]
@[congr high] theorem zIy {d d':D} {f:D→Option R} (h:idf d=d'):asAt d f=asAt d' f:=by rw [zcl] at h; rw [h]
@[congr high] theorem zHA {d d':List D} {f:D→Option R} (h:idf d=d'):zB5 d f=zB5 d' f:=by rw [zcl] at h; rw [h]
@[congr high] theorem zIQ {k:Nat} {d d':D} {f:Nat→Option R} (h:idf d=d'):asH k d f=asH k d' f:=by rw [zcl] at h; rw [h]
@[congr high] theorem zHB {d d':D} {f:Bool→Option R} (h:idf d=d'):zpv d f=zpv d' f:=by rw [zcl] at h; rw [h]
@[congr high] theorem zG6 {d d':D} {f:Bool→Option R} (h:idf d=d'):zr4 d f=zr4 d' f:=by rw [zcl] at h; rw [h]
@[congr high] theorem zG7 {kk:MK} {d d':D} {f:List (Int×D)→Option R} (h:idf d=d'):ziS kk d f=ziS kk d' f:=by rw [zcl] at h; rw [h]
@[congr high] theorem zHC {kk:MK} {d d':D} {f:List (Int×D)→Option R} (h:idf d=d'):zr5 kk d f=zr5 kk d' f:=by rw [zcl] at h; rw [h]
@[congr high] theorem zIz {T T':Tb} {f:Tb→Option R} (h:idf T=T'):letT T f=letT T' f:=by rw [zcl] at h; rw [h]
@[congr high] theorem zHD {l l':List α} {f:α→List α→Option R} (h:idf l=l'):zeE l f=zeE l' f:=by rw [zcl] at h; rw [h]
@[congr high] theorem zIA {l l':List α} {x:Option R} (h:idf l=l'):nilK l x=nilK l' x:=by rw [zcl] at h; rw [h]
@[congr high] theorem zFe {ls:List Lf} {d d':List D} {f:LfT ls→Option R} (h:idf d=d'):zaz ls d f=zaz ls d' f:=by rw [zcl] at h; rw [h]
@[congr high] theorem zHE {B:(α→Option R)→α→Option R} {a a':α} (h:idf a=a'):zb3 B a=zb3 B a':=by rw [zcl] at h; rw [h]
end
@[simp] theorem zIR (k i:Nat):zhs (.h k i 0)=true:=rfl
@[simp] theorem zJh (k i:Nat):D.free (.h k i 0)=true:=rfl
@[simp] theorem zgA {R:Type} (a b:D) (f:LfT [.any,.any]→Option R):zaz [.any,.any] [a,b] f=f (a,b,()):=by rw [zc4,zc4,zee]
@[simp] theorem zIS {β:Type} {l:List β} {n:Nat} (h:l.length=n):cut 0 n l=l:=by subst h; exact zdD l
end Wf

namespace Wf
open Go Go.RowKit Go.Proofs
set_option linter.unusedSimpArgs false
set_option linter.unusedVariables false
set_option maxHeartbeats 4000000
theorem zDB {T0:Tb} {b:Nat} {idx:List Nat}:∀ (l:List Act) (B:Ben),(∀ a∈l,a.isW=false)→P0 T0 b idx (does B l)=P0 T0 b idx B
 | [],B,_=>rfl
 | a::l,B,h=>by
  show P0 T0 b idx (does (B.does1 a) l)=_
  rw [zDB l _ fun a ha=>h a (List.mem_cons_of_mem _ ha)]
  have:=h a (List.mem_cons_self ..)
  cases a with
  | w d a x=>cases this
  | f d=>rfl
theorem zDC (B:Ben) (live:List Bool):∀ a∈B.fActs live,a.isW=false:=by
 intro a ha;unfold Ben.fActs at ha;obtain ⟨e,he,ha⟩:=List.mem_flatMap.1 ha;split at ha
 ·rw [List.mem_singleton.1 ha]; rfl
 ·cases ha
structure Run (U V:Tb) (b:Nat) (idx:List Nat) (B:Ben) (n:Nat) (K:Int):Prop where
 at':At U V b idx B
 num:B.n=n
 down:B.down=false
 left:B.left= -1
 w:B.w≤K
theorem Run.mono {U V:Tb} {b:Nat} {idx:List Nat} {B:Ben} {n:Nat} {K L:Int} (h:Run U V b idx B n K) (hk:K≤L):Run U V b idx B n L:=⟨h.at',h.num,h.down,h.left,by have:=h.w; omega⟩
theorem zBn (T0 T1:Tb) {g:Geo} (hk:g.ok=true) {n:Nat} (n0:1≤n) (n8:n≤8) (tg:Tag) (l:List Int):∃ U V idx B,
  zbd [.agg [.int .i64 g.l,.int .i64 g.d,.int .i64 g.c],.int .i64 n,.sl tg (intL l)] [T0,T1]=some (Ans.mk (.h kB T0.length 0) [] [P0 U T0.length idx B,P1 V idx B])∧
  Run U V T0.length idx B n 0∧Still B∧B.w=0∧(∀ d s:Int,0≤d→d < g.d→d < n→0≤s→s < 16→B.cur d (36+s)=atR g s (rowL g l s.toNat) d)∧(∀ d a:Int,0≤d→0≤a→a < 36∨g.d≤d→a < 52→B.cur d a=zez):=by
 have hF:=zl5 (gs:=fun _=>g) (l:=l) n8 (fun _=>hk) 16 (by omega)
 have hat0:=zDu T0 T1 n8
 refine ⟨_,_,_,_,zIu hk n0 n8 tg l,⟨⟨hat0.b,hat0.nd,hat0.lt,?_,hF.still.ok⟩,hF.num,hF.still.down,hF.left,by rw [hF.w]; omega⟩,hF.still,hF.w,fun d s d0 d1 d2 s0 s1=>?_,fun d a d0 a0 ha a1=>?_⟩
 ·have:=hF.num; unfold Ben.n at this; rw [hat0.len]; simp [Ben.new]; omega
 ·rw [hF.cur d (36+s) d0 (by omega) (by omega),show (36+s - 36)=s by omega,if_pos ⟨by omega,by omega,d1,d2⟩]
 ·rw [hF.cur d a d0 a0 a1,if_neg (fun q=>by omega)]
section
variable {U V:Tb} {b:Nat} {idx:List Nat} {B:Ben} {n:Nat} {K:Int}
theorem Run.up (h:Run U V b idx B n K) {d:Int} (d0:0≤d):B.up (List.replicate n true) d=(decide (d < n) && !B.failed d):=zFO h.num d0
theorem Run.is (h:Run U V b idx B n K) {d:Int} (d0:0≤d) (d1:d < n):B.is d=true:=zfN.2 ⟨d0,by rw [h.num]; exact d1⟩
theorem Run.write (h:Run U V b idx B n K) (hK:K≤900000) (tg:Tag) (live:List Bool) {g:Geo} {r:Int} (hr:zcv g r=true) (tg2:Tag) {data:List (List Int)} (hR:Row g data):∃ B1,
  zb7 [.h kB b 0,.sl tg (live.map D.bool),.agg [.int .i64 g.l,.int .i64 g.d,.int .i64 g.c],.int .i64 r,.sl tg2 (pL (fP data))] [P0 U b idx B,P1 V idx B]=some (Ans.mk (.int .i64 0) [] [P0 U b idx B1,P1 V idx B1])∧
  Run U V b idx B1 n (K+8)∧(∀ e,B1.failed e=B.failed e)∧B1=does B (B.wActs live g r data)∧(∀ e a:Int,0≤e→e < g.d→0≤a→a < 52→B1.cur e a=if a=36+r∧B.up live e=true then atR g r data e else B.cur e a):=by
 obtain ⟨hw1,hD1⟩:=zzj h.at'.ok h.down (live:=live) hr hR (.inl (by rw [h.left]; omega))
 have hdd:=ok_d (zbm.1 hr).1;have hw:=h.w;have hwd:=zbL (zbm.1 hr).1
 have hsw:=zqR h.at' (by omega) tg live g r tg2 (ps:=fP data) (by have:=hR.len; simp; omega) (by intro x hx; obtain ⟨y,hy,rfl⟩:=List.mem_map.1 hx; exact hR.sec y hy)
 rw [zxZ,hw1] at hsw;have hn:=zrv B live g r data;have hnx:=hD1.nx.w
 refine ⟨does B (B.wActs live g r data),hsw,⟨h.at'.nx hD1.nx,hD1.nx.n.trans h.num,hD1.down.trans h.down,by rw [hD1.left,h.left]; rfl,by omega⟩,hD1.failed,rfl,fun e a e0 e1 a0 a1=>zDA hD1 e0 e1 a0 a1⟩
theorem Run.flush (h:Run U V b idx B n K) (hK:K≤900000) (tg:Tag) (live:List Bool):∃ B1,
  zb8 [.h kB b 0,.sl tg (live.map D.bool)] [P0 U b idx B,P1 V idx B]=some (Ans.mk (.int .i64 0) [] [P1 V idx B1])∧P0 U b idx B=P0 U b idx B1∧
  Run U V b idx B1 n K∧(∀ e,B1.failed e=B.failed e)∧B1=does B (B.fActs live)∧(∀ e a:Int,0≤e→0≤a→a < 52→B1.cur e a=B.cur e a):=by
 obtain ⟨hw1,hD1⟩:=zzk h.at'.ok h.down live (.inl (by rw [h.left]; omega))
 have hw:=h.w
 have hsf:=zqS h.at' (by omega) tg live
 rw [hw1] at hsf;have hnx:=hD1.nx.w;rw [zrw] at hnx
 refine ⟨does B (B.fActs live),hsf,(zDB _ _ (zDC B live)).symm,⟨h.at'.nx hD1.nx,hD1.nx.n.trans h.num,hD1.down.trans h.down,by rw [hD1.left,h.left,zrw]; rfl,by omega⟩,hD1.failed,rfl,fun e a e0 a0 a1=>zDz hD1 e0 a0 a1⟩
theorem Run.fail (h:Run U V b idx B n K) {d:Int} (d0:0≤d) (d1:d < n):∃ B1,
  zbs [.h kB b 0,.int .i64 d] [P0 U b idx B,P1 V idx B]=some (Ans.mk (.int .i64 0) [] [P1 V idx B1])∧P0 U b idx B=P0 U b idx B1∧
  Run U V b idx B1 n K∧(∀ e:Int,0≤e→e < n→B1.failed e=(decide (e=d) || B.failed e))∧B1=(B.fail d).2∧(∀ e a:Int,0≤e→e≠d→B1.cur e a=B.cur e a):=by
 have hd:=h.is d0 d1;obtain ⟨f1,f2,f3,f4,f5⟩:=zDy hd;have hf:=zIj h.at' d;rw [f1] at hf
 have hp:P0 U b idx B=P0 U b idx (B.fail d).2:=by unfold Ben.fail; rw [if_pos hd]; rfl
 have hnx:=zGK (d:=d) h.at'.ok
 refine ⟨(B.fail d).2,hf,hp,⟨h.at'.nx hnx,f2.trans h.num,f3.trans h.down,f4.trans h.left,by rw [f5]; exact h.w⟩,fun e e0 e1=>zzi hd (h.is e0 e1),rfl,fun e a e0 hne=>zFb hd e0 hne⟩
theorem Run.read (h:Run U V b idx B n K) (hK:K≤900000) (tg:Tag) (live:List Bool) (g:Geo) (r:Int):
  zck [.h kB b 0,.sl tg (live.map D.bool),.agg [.int .i64 g.l,.int .i64 g.d,.int .i64 g.c],.int .i64 r] [P0 U b idx B,P1 V idx B]=some (Ans.mk (.tup [.sl .own (pL (fP (B.sRead live g r).1)),.int .i64 (B.sRead live g r).2]) [] []):=
 ztn h.at' (by have:=h.w; omega) tg live g r
end
end Wf

namespace Wf
open Go Go.RowKit Go.Proofs
set_option linter.unusedSimpArgs false
set_option linter.unusedVariables false
set_option maxHeartbeats 4000000
@[simp ↓] theorem zJi {R α:Type} (g:α→Option R) (f:(α→Option R)→Option R):jn g f=f g:=rfl
theorem zG8 {R α:Type} {g:α→Option R} {f:(α→Option R)→Option R} {r:Option R} (I:α→Prop) (hg:∀ a,I a→g a=r) (hf:∀ j,(∀ a,I a→j a=r)→f j=r):jn g f=r:=hf g hg
section
variable {T0 T1:Tb} {b:Nat} {idx:List Nat} {B:Ben}
end
end Wf

namespace Wf
open Go Go.RowKit Go.Proofs
set_option linter.unusedSimpArgs false
set_option linter.unusedVariables false
set_option maxHeartbeats 4000000
def Ben.nP (B:Ben) (d:Int):Nat:=(B.dk d).pend.length
section
variable {B:Ben}
theorem zFf (B:Ben) (a:Act):does B [a]=B.does1 a:=rfl
theorem zAu {a:Act} (h:a.Ok B) {e:Int} (e0:0≤e):(B.does1 a).nP e=match a with
  | .w d _ _=>if e=d then B.nP e+1 else B.nP e
  | .f d=>if e=d then 0 else B.nP e:=by
 cases a with
 | w d a x=>
  show (((B.junk ((B.dk d).write a x).2).less.setD d ((B.dk d).add a x)).dk e).pend.length=if e=d then B.nP e+1 else B.nP e
  rw [zhw (by simpa using h.1) e0]
  by_cases he:e=d
  ·subst he; rw [if_pos rfl,if_pos rfl]; simp [DS.add,Ben.nP]
  ·rw [if_neg he,if_neg he]; rfl
 | f d=>
  show ((B.setD d (B.dk d).flushed).dk e).pend.length=if e=d then 0 else B.nP e
  rw [zhw h.1 e0]
  by_cases he:e=d
  ·subst he; rw [if_pos rfl,if_pos rfl]; rfl
  ·rw [if_neg he,if_neg he]; rfl
theorem zDD {as':List Act} (hB:B.Ok):(∀ a∈as',a.Ok B)→(does B as').Ok∧∀ c:Act,c.Ok B→c.Ok (does B as'):=by
 induction as' generalizing B with
 | nil=>intro _; exact ⟨hB,fun c hc=>hc⟩
 | cons a l ih=>
  intro h;have ha:=h a (List.mem_cons_self ..)
  obtain ⟨i1,i2⟩:=ih (zmk hB ha).ok fun c hc=>zrp hB ha (h c (List.mem_cons_of_mem _ hc))
  exact ⟨i1,fun c hc=>i2 c (zrp hB ha hc)⟩
theorem zFg (hB:B.Ok) {live:List Bool} {e:Int} (e0:0≤e):(does B (B.fActs live)).nP e=if B.up live e=true then 0 else B.nP e:=by
 have hok:=zvQ (B:=B) (live:=live)
 have key:∀ k,k≤B.ds.length→(does B ((List.range k).flatMap fun (d:Nat)=>if B.up live d then [Act.f d] else [])).nP e=if e < k∧B.up live e=true then 0 else B.nP e:=by
  intro k
  induction k with
  | zero=>intro _; rw [if_neg (by omega)]; rfl
  | succ k ih=>
   intro hk;rw [List.range_succ,List.flatMap_append,zsC]
   have hsub:∀ a∈((List.range k).flatMap fun (d:Nat)=>if B.up live d then [Act.f d] else []),a.Ok B:=by
    intro a ha;refine hok a ?_;unfold Ben.fActs;obtain ⟨d,hd,ha⟩:=List.mem_flatMap.1 ha
    exact List.mem_flatMap.2 ⟨d,List.mem_range.2 (by have:=List.mem_range.1 hd; omega),ha⟩
   obtain ⟨i1,i2⟩:=zDD hB hsub
   have ih:=ih (by omega)
   generalize does B ((List.range k).flatMap fun (d:Nat)=>if B.up live d then [Act.f d] else [])=C at*
   simp only [List.flatMap_cons,List.flatMap_nil,List.append_nil]
   by_cases hu:B.up live (k:Int)=true
   ·rw [if_pos hu]
    have ha:(Act.f k).Ok C:=i2 _ (hok _ (by unfold Ben.fActs; exact List.mem_flatMap.2 ⟨k,List.mem_range.2 (by omega),by rw [if_pos hu]; simp⟩))
    rw [zFf];rw [zAu ha e0];dsimp only;rw [ih]
    by_cases he:e=k
    ·subst he; rw [if_pos rfl,if_pos ⟨by omega,hu⟩]
    ·rw [if_neg he]
     by_cases hc:e < k∧B.up live e=true
     ·rw [if_pos hc,if_pos ⟨by omega,hc.2⟩]
     ·rw [if_neg hc,if_neg (fun q=>hc ⟨by omega,q.2⟩)]
   ·rw [if_neg hu];show C.nP e=_;rw [ih]
    by_cases he:e=k
    ·subst he; rw [if_neg (show ¬ ((k:Int) < (k:Int)∧_) by omega),if_neg (fun q=>hu q.2)]
    ·by_cases hc:e < k∧B.up live e=true
     ·rw [if_pos hc,if_pos ⟨by omega,hc.2⟩]
     ·rw [if_neg hc,if_neg (fun q=>hc ⟨by omega,q.2⟩)]
 have:=key B.ds.length (Nat.le_refl _);unfold Ben.fActs;rw [this]
 by_cases hu:B.up live e=true
 ·rw [if_pos hu,if_pos ⟨zIp hu,hu⟩]
 ·rw [if_neg hu,if_neg (fun q=>hu q.2)]
theorem zAv (B:Ben) (f:Nat→Bool):∀ k,(∀ j:Nat,j < k→B.nP j=if f j then 1 else 0)→zwl B k=((List.range k).countP f:Nat)
 | 0,_=>rfl
 | k+1,h=>by
  have ih:=zAv B f k fun j hj=>h j (by omega)
  have hk:=h k (by omega)
  unfold Ben.nP at hk;rw [List.range_succ,List.countP_append,List.countP_singleton];show zwl B k+_=_;rw [ih,hk];split<;>simp
theorem zx8 (h:∀ j:Nat,j < B.ds.length→B.nP j=0):B.pending=0:=by
 unfold Ben.pending
 rw [zAv B (fun _=>false) _ (by simpa using h)]
 simp
end
end Wf

namespace Wf
open Go Go.RowKit Go.Proofs
set_option linter.unusedSimpArgs false
set_option linter.unusedVariables false
set_option maxHeartbeats 4000000
end Wf

namespace Wf
open Go Go.RowKit Go.Proofs
set_option linter.unusedSimpArgs false
set_option linter.unusedVariables false
set_option maxHeartbeats 4000000
section
variable {B:Ben}
end
section
variable {T0 T1:Tb} {b:Nat} {idx:List Nat} {B:Ben}
end
end Wf

namespace Wf
open Go Go.RowKit
set_option linter.unusedSimpArgs false
set_option linter.unusedVariables false
theorem zG9 {c r w m row j:Int} (hc:c=1∨c=2∨c=4) (hr:r=1∨r=2∨r=4) (hcr:c≤r) (hw:2≤w∧w≤7) (j0:0≤j) (j1:j < w) (h0:0≤row) (h:row < m*r):(row / c*w+j)*c+row % c < m*(r*w):=by
 have hw:w=2∨w=3∨w=4∨w=5∨w=6∨w=7:=by omega
 rcases hc with rfl | rfl | rfl<;>rcases hr with rfl | rfl | rfl<;>first | (exfalso; omega) | (rcases hw with rfl | rfl | rfl | rfl | rfl | rfl<;>omega)
theorem zFh {c r w m row j:Int} (hc:c=1∨c=2∨c=4) (hr:r=1∨r=2∨r=4) (hcr:c≤r) (hw:2≤w∧w≤7) (j0:0≤j) (j1:j < w) (h0:0≤row) (h:m*r≤row):m*(r*w)≤(row / c*w+j)*c+row % c:=by
 have hw:w=2∨w=3∨w=4∨w=5∨w=6∨w=7:=by omega
 rcases hc with rfl | rfl | rfl<;>rcases hr with rfl | rfl | rfl<;>first | (exfalso; omega) | (rcases hw with rfl | rfl | rfl | rfl | rfl | rfl<;>omega)
theorem zFi {c r w k a:Int} (hc:c=1∨c=2∨c=4) (hr:r=1∨r=2∨r=4) (hcr:c≤r) (hw:2≤w∧w≤7) (h0:0≤a) (h:k*r*w≤a):k*r≤a / c / w*c+a % c:=by
 have hw:w=2∨w=3∨w=4∨w=5∨w=6∨w=7:=by omega
 rcases hc with rfl | rfl | rfl<;>rcases hr with rfl | rfl | rfl<;>first | (exfalso; omega) | (rcases hw with rfl | rfl | rfl | rfl | rfl | rfl<;>omega)
theorem zgB {g:Geo} {a:Int} (h0:0≤a) (h1:a < g.cap):zcv g (rowG g a)=true∧0≤zdq g a∧zdq g a < g.width∧numP g (rowG g a) (zdq g a)=a:=by
 have hk:=zuF h0 h1;have hr:=zrq h0 h1;have hm:=zGO hk (a / g.c);refine ⟨zbm.2 ⟨hk,hr.1,hr.2.1⟩,hm.1,hm.2,?_⟩;have hw:=zbL hk;have hc:=(zdE.1 hk).2.2;unfold numP rowG zdq;generalize g.c=c at*;generalize g.width=w at*
 have hw:w=2∨w=3∨w=4∨w=5∨w=6∨w=7:=by omega
 rcases hc with rfl | rfl | rfl<;>rcases hw with rfl | rfl | rfl | rfl | rfl | rfl<;>omega
theorem zHa {x y:Geo} {k:Int} (h0:0≤k) (h1:k < winP x y):zbC x y k=(k*(zaS x y*y.width),(k+1)*(zaS x y*y.width)):=by
 unfold zbC; rw [if_neg (by omega)]
theorem zHb {x y:Geo} {k:Int} (h0:0≤k) (h1:k < winP x y):x.can y=true:=by
 cases h:x.can y
 ·have:=(znx h).2; omega
 ·rfl
structure Win (x y:Geo) (k:Int):Prop where
 can:x.can y=true
 xok:x.ok=true
 yok:y.ok=true
 r:zaS x y=1∨zaS x y=2∨zaS x y=4
 xc:x.c≤zaS x y
 yc:y.c≤zaS x y
 r0:0≤k*zaS x y
 r1:(k+1)*zaS x y≤16
 rr:(k+1)*zaS x y=k*zaS x y+zaS x y
 s1:(zbC x y k).1=k*(zaS x y*y.width)
 s2:(zbC x y k).2=(k+1)*(zaS x y*y.width)
 ss:(zbC x y k).2=(zbC x y k).1+zaS x y*y.width
 s0:0≤(zbC x y k).1
 se:(zbC x y k).2≤y.cap
 m:2≤zaS x y*y.width∧zaS x y*y.width≤28
theorem znc {x y:Geo} {k:Int} (h0:0≤k) (h1:k < winP x y):Win x y k:=by
 have hc:=zHb h0 h1;obtain ⟨k1,k2,k3,k4,k5,k6⟩:=zjG.1 hc;obtain ⟨e1,e2⟩:=zlh hc;obtain ⟨e3,e4,e5⟩:=zxx hc;have hw:=zbL k2;have hs:=zHa h0 h1;have hx:=(zdE.1 k1).2.2;have hy:=(zdE.1 k2).2.2
 have rr:(k+1)*zaS x y=k*zaS x y+zaS x y:=by rw [Int.add_mul,Int.one_mul]
 have ss:(k+1)*(zaS x y*y.width)=k*(zaS x y*y.width)+zaS x y*y.width:=by rw [Int.add_mul,Int.one_mul]
 have hm:2≤zaS x y*y.width∧zaS x y*y.width≤28:=by rcases e2 with e | e | e<;>rw [e]<;>omega
 have hr0:0≤k*zaS x y:=Int.mul_nonneg h0 (by omega)
 have hr1:(k+1)*zaS x y≤16:=by
  rw [←e5]
  exact Int.mul_le_mul_of_nonneg_right (by omega) (by omega)
 refine ⟨hc,k1,k2,e2,by omega,by omega,hr0,hr1,rr,by rw [hs],by rw [hs],by rw [hs]; exact ss,by rw [hs]; exact Int.mul_nonneg h0 (by omega),?_,hm⟩
 rw [hs];show (k+1)*(zaS x y*y.width)≤y.width*16;rw [←Int.mul_assoc,Int.mul_comm y.width 16]
 exact Int.mul_le_mul_of_nonneg_right hr1 (by omega)
theorem zrx {x y:Geo} {k r j:Int} (h:Win x y k) (r0:k*zaS x y≤r) (r1:r < (k+1)*zaS x y) (j0:0≤j) (j1:j < y.width):(zbC x y k).1≤numP y r j∧numP y r j < (zbC x y k).2:=by
 have hw:=zbL h.yok;have hy:=(zdE.1 h.yok).2.2;have:=h.r0;rw [h.s1,h.s2];unfold numP
 exact ⟨zFh hy h.r h.yc hw j0 j1 (by omega) r0,zG9 hy h.r h.yc hw j0 j1 (by omega) r1⟩
theorem zHc {x y:Geo} {k n:Int} (h:Win x y k) (n0:(zbC x y k).1≤n) (n1:n < x.cap):k*zaS x y≤rowG x n:=by
 have hw:=zbL h.xok;have hx:=(zdE.1 h.xok).2.2;have hs:=h.s0;have hww:=(zjG.1 h.can).2.2.2.2.2;rw [h.s1] at n0 hs
 have hle:k*zaS x y*x.width≤k*(zaS x y*y.width):=by
  rw [Int.mul_assoc]
  have h0:0≤k:=by
   rcases h.r with e | e | e<;>have:=h.r0<;>rw [e] at this<;>omega
  exact Int.mul_le_mul_of_nonneg_left (Int.mul_le_mul_of_nonneg_left hww (by rcases h.r with e | e | e<;>omega)) h0
 unfold rowG
 exact zFi hx h.r h.xc hw (by omega) (by omega)
end Wf

namespace Wf
open Go Go.RowKit Go.Proofs
set_option linter.unusedSimpArgs false
set_option linter.unusedVariables false
set_option maxHeartbeats 4000000
theorem zry:[D.int IntKind.u8 (0:Int),D.int IntKind.u8 (0:Int),D.int IntKind.u8 (0:Int),D.int IntKind.u8 (0:Int),D.int IntKind.u8 (0:Int),D.int IntKind.u8 (0:Int),D.int IntKind.u8 (0:Int),D.int IntKind.u8 (0:Int),D.int IntKind.u8 (0:Int),D.int IntKind.u8 (0:Int),D.int IntKind.u8 (0:Int),D.int IntKind.u8 (0:Int),D.int IntKind.u8 (0:Int),D.int IntKind.u8 (0:Int),D.int IntKind.u8 (0:Int),D.int IntKind.u8 (0:Int),D.int IntKind.u8 (0:Int),D.int IntKind.u8 (0:Int),D.int IntKind.u8 (0:Int),D.int IntKind.u8 (0:Int),D.int IntKind.u8 (0:Int),D.int IntKind.u8 (0:Int),D.int IntKind.u8 (0:Int),D.int IntKind.u8 (0:Int),D.int IntKind.u8 (0:Int),D.int IntKind.u8 (0:Int),D.int IntKind.u8 (0:Int),D.int IntKind.u8 (0:Int),D.int IntKind.u8 (0:Int),D.int IntKind.u8 (0:Int),D.int IntKind.u8 (0:Int),D.int IntKind.u8 (0:Int)]=uL zez:=rfl
theorem zwq (ls:List (List Int)) (l:List Int):pL (fP ls)++[D.sl .fresh (uL l)]=pL (fP (ls++[l])):=by simp [pL,fP]
section
variable (a to:Geo) (k:Int)
def mayW:Bool:=decide (0≤k) && decide (k < winP a to)
theorem window_may:zbK [.agg [.int .i64 a.l,.int .i64 a.d,.int .i64 a.c],.agg [.int .i64 to.l,.int .i64 to.d,.int .i64 to.c],.int .i64 k]=some (.bool (mayW a to k)):=by
 rw [zsO];unfold zlz mayW;have hw:zba [.agg [.int .i64 a.l,.int .i64 a.d,.int .i64 a.c],.agg [.int .i64 to.l,.int .i64 to.d,.int .i64 to.c]]=some (.int .i64 (winP a to)):=zqO a to
 by_cases h:0≤k<;>simp [h,hw]
theorem zuZ:zbV [.agg [.int .i64 a.l,.int .i64 a.d,.int .i64 a.c],.agg [.int .i64 to.l,.int .i64 to.d,.int .i64 to.c],.int .i64 k]=some (.tup [.int .i64 (zbC a to k).1,.int .i64 (zbC a to k).2]):=zC1 a to k
theorem zBo:zbb [.agg [.int .i64 a.l,.int .i64 a.d,.int .i64 a.c],.agg [.int .i64 to.l,.int .i64 to.d,.int .i64 to.c]]=some (.int .i64 (zaS a to)):=zs9 a to
theorem zFj:zaW [.agg [.int .i64 a.l,.int .i64 a.d,.int .i64 a.c]]=some (.int .i64 a.cap):=zCY a
end
def Act.sec:Act→Prop
 | .w _ _ x=>Sec x
 | .f _=>True
theorem zwr:∀ (l:List Act) {B:Ben},B.Ok→(∀ a∈l,a.sec)→Nx (nW l) B (runA l B).2∧Like B (runA l B).2
 | [],B,hB,_=>⟨.rfl' hB (by simp [nW]),.refl B⟩
 | a::l,B,hB,h=>by
  have ha:=h a (List.mem_cons_self ..)
  have h1:Nx (if a.isW=true then 1 else 0) B (B.act a).2∧Like B (B.act a).2:=by
   cases a with
   | w d a x=>exact ⟨zz7 hB (.inl ha),zuW ..⟩
   | f d=>exact ⟨zz8 hB,zuX hB d⟩
  rw [zlf,zCP]
  by_cases h0:(B.act a).1=0
  ·rw [if_pos h0]
   obtain ⟨h2,h3⟩:=zwr l h1.1.ok fun c hc=>h c (List.mem_cons_of_mem _ hc)
   exact ⟨(h1.1.trans h2).mono (by split<;>simp),h1.2.trans h3⟩
  ·rw [if_neg h0]
   exact ⟨h1.1.mono (by split<;>simp<;>omega),h1.2⟩
theorem zDE {T0:Tb} {b:Nat} {idx:List Nat}:∀ (l:List Act) (B:Ben),(∀ a∈l,a.isW=false)→P0 T0 b idx (runA l B).2=P0 T0 b idx B
 | [],B,_=>rfl
 | a::l,B,h=>by
  have h1:P0 T0 b idx (B.act a).2=P0 T0 b idx B:=by
   have:=h a (List.mem_cons_self ..)
   cases a with
   | w d a x=>cases this
   | f d=>show P0 T0 b idx (B.flush d).2=_; unfold Ben.flush; split<;>rfl
  rw [zlf];split
  ·rw [zDE l _ fun a ha=>h a (List.mem_cons_of_mem _ ha),h1]
  ·exact h1
theorem ztp {B:Ben} {live:List Bool} {g:Geo} {r:Int} {data:List (List Int)} (hr:zcv g r=true) (hR:Row g data):∀ a∈B.wActs live g r data,a.sec:=fun a ha=>by
 unfold Ben.wActs at ha;obtain ⟨d,hd,ha⟩:=List.mem_flatMap.1 ha;have hd:=List.mem_range.1 hd;split at ha
 ·rw [List.mem_singleton.1 ha]
  exact zxB hr hR (by omega) (by have:=ok_d (zbm.1 hr).1; omega)
 ·cases ha
theorem zDF {B:Ben} (hB:B.Ok) {live:List Bool} {g:Geo} {r:Int} {data:List (List Int)} (hr:zcv g r=true) (hR:Row g data):Nx 8 B (B.sWrite live g r data).2:=by
 unfold Ben.sWrite
 rw [if_neg (by rw [zi1 hr hR]; simp)]
 have:=zrv B live g r data;have:=ok_d (zbm.1 hr).1
 exact (zwr _ hB (ztp hr hR)).1.mono (by omega)
def Ben.wOne (B:Ben) (live:List Bool) (a:Geo) (n:Int):List Int×Int:=if a.cap≤n then (zez,0) else B.sOne live a n
def Ben.wStep (B:Ben) (live:List Bool) (a:Geo) (from':Int) (j:Nat) (acc:List (List Int)):Int×List (List Int):=
 if (B.wOne live a (from'+j)).2=0 then (0,acc++[(B.wOne live a (from'+j)).1]) else ((B.wOne live a (from'+j)).2,acc)
def Ben.wGo (B:Ben) (live:List Bool) (a to:Geo) (k:Int):Int×List (List Int):=runE (B.wStep live a (zbC a to k).1) 0 ((zbC a to k).2 - (zbC a to k).1).toNat []
def Ben.wRead (B:Ben) (live:List Bool) (a to:Geo) (k:Int):List (List Int)×Int:=
 if mayW a to k=false then ([],1) else (if (B.wGo live a to k).1=0 then (B.wGo live a to k).2 else [],(B.wGo live a to k).1)
def rowW (a to:Geo) (k:Int) (data:List (List Int)) (r:Int):List (List Int):=(List.range to.width.toNat).map fun (j:Nat)=>data.getD (numP to r j - (zbC a to k).1).toNat []
def Ben.wRows (B:Ben) (live:List Bool) (a to:Geo) (k:Int) (data:List (List Int)):Int×Ben:=
 runE (fun j B=>B.sWrite live to (k*zaS a to+j) (rowW a to k data (k*zaS a to+j))) 0 (zaS a to).toNat B
def Ben.wWrite (B:Ben) (live:List Bool) (a to:Geo) (k:Int) (data:List (List Int)):Int×Ben:=
 if mayW a to k=false∨(data.length:Int)≠(zbC a to k).2 - (zbC a to k).1∨data.all (fun x=>decide (x.length=32))=false then (1,B)
 else if (B.wRows live a to k data).1=0 then (B.wRows live a to k data).2.sFlush live else B.wRows live a to k data
theorem zHd {B:Ben} {live:List Bool} {g:Geo} {n:Int}:(B.oneT live g n=.fresh∨B.oneT live g n=.nil)∧((B.sOne live g n).2=0→B.oneT live g n=.fresh):=by
 unfold Ben.oneT Ben.sOne;split
 ·exact ⟨.inr rfl,fun e=>absurd e (by decide)⟩
 ·split
  ·exact ⟨.inl rfl,fun _=>rfl⟩
  ·split
   ·rename_i h; exact ⟨.inr rfl,fun e=>absurd e h⟩
   ·exact ⟨.inl rfl,fun _=>rfl⟩
theorem zrz {a to:Geo} {k:Int}:mayW a to k=true↔0≤k∧k < winP a to:=by unfold mayW; simp
section
variable {T0 T1:Tb} {b:Nat} {idx:List Nat} {B:Ben}
theorem ztq (h:At T0 T1 b idx B) (hw:B.w≤1000000) (tg:Tag) (live:List Bool) (a to:Geo) (k:Int):
  zbh [.h kB b 0,.sl tg (live.map D.bool),.agg [.int .i64 a.l,.int .i64 a.d,.int .i64 a.c],.agg [.int .i64 to.l,.int .i64 to.d,.int .i64 to.c],.int .i64 k] [P0 T0 b idx B,P1 T1 idx B]=
   some (Ans.mk (.tup [.sl .own (pL (fP (B.wRead live a to k).1)),.int .i64 (B.wRead live a to k).2]) [] []):=by
 rw [zrb,zhe];unfold zj4 Ben.wRead;have hm:=window_may a to k;cases hmw:mayW a to k
 ·rw [hmw] at hm;simp [hm]; rfl
 rw [hmw] at hm;obtain ⟨k0,k1⟩:=zrz.1 hmw;have hW:=znc k0 k1;have hs:=zuZ a to k;have hs0:=hW.s0;have hss:=hW.ss;have hmm:=hW.m;have hse:=hW.se;have hyw:=zbL hW.yok;have hyc:to.cap=to.width*16:=rfl
 rw [if_neg (by simp)]
 unfold Ben.wGo;generalize (zbC a to k).1=fr at*;generalize (zbC a to k).2=en at*;have hz:=zry;simp only [zcl,hm,hs,zad,zch,Bool.not_true,zaq,zdX,zl3,za3]
 let st:Nat→List (List Int)→(Nat×List D×(Int×Int×Int×PUnit)×List D×Int×Int×PUnit)×List (List D)×List (List D)×PUnit:=fun j acc=>
  ((b,live.map D.bool,(a.l,a.d,a.c,PUnit.unit),pL (fP acc),en,fr+j,PUnit.unit),P0 T0 b idx B,P1 T1 idx B,PUnit.unit)
 have hst:st 0 []=((b,live.map D.bool,(a.l,a.d,a.c,PUnit.unit),[],en,fr,PUnit.unit),P0 T0 b idx B,P1 T1 idx B,PUnit.unit):=by
  simp only [zcl,st,Int.natCast_zero,Int.add_zero]; rfl
 rw [←hst]
 refine zoC (B.wStep live a fr) (fun j acc=>acc.length=j) st (fun y=>some (Ans.mk (.tup [.sl .own (pL (fP (if y.1=0 then y.2 else []))),.int .i64 y.1]) [] [])) (en - fr).toNat (by omega) rfl ?_ ?_ ?_
 ·rintro j acc hj hacc he
  unfold Ben.wStep at he ⊢;split
  ·simp [hacc]
  ·rename_i hne; rw [if_neg hne] at he; exact absurd he hne
 ·rintro again j acc hj hacc
  dsimp only [zcl,st]
  have hlt:fr+(j:Int) < en:=by omega
  have hcap:=zFj a
  have hwr:IntKind.i64.wrap (fr+(j:Int)+1)=fr+((j+1:Nat):Int):=by rw [zah (by omega) (by omega)]; omega
  unfold Ben.wStep Ben.wOne
  by_cases hc:a.cap≤fr+(j:Int)
  ·have hsn:=zwq acc zez
   simp (disch:=first | omega | assumption | (simp; done) | fail) [-List.all_eq_true,hlt,hcap,hc,hz,hsn,hwr,hacc]
  ·rw [if_neg hc];have hone:=zBi h hw .lent live a (fr+(j:Int));obtain ⟨ht1,ht2⟩:=zHd (B:=B) (live:=live) (g:=a) (n:=fr+(j:Int))
   by_cases he:(B.sOne live a (fr+(j:Int))).2=0
   ·rw [ht2 he,he] at hone;have hsn:=zwq acc (B.sOne live a (fr+(j:Int))).1
    simp (disch:=first | omega | assumption | (simp; done) | fail) [-List.all_eq_true,hlt,hcap,hc,hone,hsn,hwr,hacc,zhs,he]
   ·rcases ht1 with ht | ht<;>rw [ht] at hone<;>
     simp (disch:=first | omega | assumption | (simp; done) | fail) [-List.all_eq_true,hlt,hcap,hc,hone,zhs,he]<;>rfl
 ·rintro again acc hacc
  dsimp only [zcl,st]
  have hfe:fr+(((en - fr).toNat:Nat):Int)=en:=by omega
  simp [-List.all_eq_true,-Int.ofNat_toNat,hfe,zfJ]
theorem zI9 {data:List (List Int)} (h:data.all (fun x=>decide (x.length=32))=true) {i:Nat} (hi:i < data.length):(data.getD i []).length=32:=by
 have:=List.all_eq_true.1 h _ (zc3 hi);simpa using this
theorem zx9 (h:At T0 T1 b idx B) (hw:B.w≤900000) (tg:Tag) (live:List Bool) (a to:Geo) (k:Int) (tg2:Tag) {data:List (List Int)} (hn:data.length < 100000) (hs:∀ x∈data,x.length=32→Sec x):
  zb1 [.h kB b 0,.sl tg (live.map D.bool),.agg [.int .i64 a.l,.int .i64 a.d,.int .i64 a.c],.agg [.int .i64 to.l,.int .i64 to.d,.int .i64 to.c],.int .i64 k,.sl tg2 (pL (fP data))] [P0 T0 b idx B,P1 T1 idx B]=
   some (Ans.mk (.int .i64 (B.wWrite live a to k data).1) [] [P0 T0 b idx (B.wWrite live a to k data).2,P1 T1 idx (B.wWrite live a to k data).2]):=by
 rw [zqi,zhe,zdc]
 have hlm:(fP data).map (fun x=>(zb0 x.1 x.2,x.2))=data.map fun x=>(zb0 .fresh x,x):=by unfold fP; rw [List.map_map]; rfl
 rw [hlm]
 generalize hQ:(data.map fun x=>(zb0 .fresh x,x))=Q
 have hql:Q.length=data.length:=by rw [←hQ]; simp
 have hqg:∀ {i:Nat},i < data.length→(pL Q)[i]? =some (.sl (zb0 .fresh (data.getD i [])) (uL (data.getD i []))):=by
  intro i hi;refine zcR (?_:Q[i]? =some (zb0 .fresh (data.getD i []),data.getD i []));rw [←hQ,List.getElem?_map,List.getD_eq_getElem?_getD,List.getElem?_eq_getElem hi]; rfl
 unfold ziD Ben.wWrite;have hm:=window_may a to k;have hsp:=zuZ a to k;cases hmw:mayW a to k
 ·rw [hmw] at hm;simp [hm,hsp]
 rw [hmw] at hm;obtain ⟨k0,k1⟩:=zrz.1 hmw;have hW:=znc k0 k1;have hs0:=hW.s0;have hss:=hW.ss;have hmm:=hW.m;have hse:=hW.se;have hyw:=zbL hW.yok;have hyc:to.cap=to.width*16:=rfl
 have hwd:IntKind.i64.wrap ((zbC a to k).2 - (zbC a to k).1)=(zbC a to k).2 - (zbC a to k).1:=zah (by omega) (by omega)
 by_cases hl:(data.length:Int)=(zbC a to k).2 - (zbC a to k).1
 rotate_left
 ·rw [if_pos (.inr (.inl hl))]
  have hl':¬ (Q.length:Int)=(zbC a to k).2 - (zbC a to k).1:=by rw [hql]; exact hl
  simp [hm,hsp,hwd,hl']
 have hl':(Q.length:Int)=(zbC a to k).2 - (zbC a to k).1:=by rw [hql]; exact hl
 simp (disch:=first | omega | assumption | (simp; done) | fail) only [zcl,hm,hsp,zad,zch,Bool.not_true,zaq,zdX,zl3,za3,zaF,hwd,ztf,hl',zlb]
 let st:Nat→(Nat×List D×Int×List D×(Int×Int×Int×PUnit)×(Int×Int×Int×PUnit)×Int×List D×Int×Int×PUnit)×List (List D)×List (List D)×PUnit:=fun j=>
  ((b,live.map D.bool,k,pL Q,(a.l,a.d,a.c,PUnit.unit),(to.l,to.d,to.c,PUnit.unit),(zbC a to k).1,pL Q,(zbC a to k).2 - (zbC a to k).1,(j:Int),PUnit.unit),P0 T0 b idx B,P1 T1 idx B,PUnit.unit)
 show zb3 _ (st 0)=_
 refine zfZ (fun x=>data.length - x.1.2.2.2.2.2.2.2.2.2.1.toNat) (fun _=>_) (fun x=>∃ j:Nat,j≤data.length∧(∀ i,i < j→(data.getD i []).length=32)∧x=st j) ?_ ⟨0,by omega,fun i hi=>by omega,rfl⟩ (by simp [st]; omega)
 rintro again _ ⟨j,hj,hall,rfl⟩ hag
 dsimp only [zcl,st]
 by_cases hlt:j < data.length
 ·have hlt':(j:Int) < (zbC a to k).2 - (zbC a to k).1:=by omega
  have hg:=hqg hlt
  by_cases h32:(data.getD j []).length=32
  ·have:=hag (st (j+1)) ⟨j+1,by omega,fun i hi=>by
    by_cases e:i=j
    ·subst e; exact h32
    ·exact hall i (by omega),rfl⟩ (by simp [st]; omega)
   dsimp only [zcl,st] at this
   rw [show ((j+1:Nat):Int)=(j:Int)+1 by omega] at this
   have h32':((uL (data.getD j [])).length:Int)=32:=by rw [zdz]; omega
   simp only [zcl,decide_eq_true hlt',zaX,zaa (show (0:Int)≤(j:Int) by omega),Int.toNat_natCast,zal hg,zc0,h32',zlb,zaF,zah (show (-9223372036854775808:Int)≤(j:Int)+1 by omega) (by omega)]
   exact this
  ·have hnall:data.all (fun x=>decide (x.length=32))=false:=by
    rw [List.all_eq_false]
    exact ⟨_,zc3 hlt,by simpa using h32⟩
   have h32':¬ ((uL (data.getD j [])).length:Int)=32:=by rw [zdz]; omega
   rw [if_pos (.inr (.inr hnall))]
   simp only [zcl,decide_eq_true hlt',zaX,zaa (show (0:Int)≤(j:Int) by omega),Int.toNat_natCast,zal hg,zc0]
   rw [zFB h32']
 ·have hje:j=data.length:=by omega
  subst hje
  have hall':data.all (fun x=>decide (x.length=32))=true:=by
   rw [List.all_eq_true];intro x hx;obtain ⟨i,hi,rfl⟩:=List.mem_iff_getElem.1 hx;have:=hall i hi;rw [List.getD_eq_getElem?_getD,List.getElem?_eq_getElem hi] at this;simpa using this
  rw [if_neg (by rintro (e | e | e)<;>first | cases e | exact e hl | (rw [hall'] at e; cases e))]
  have hnl:¬ (data.length:Int) < (zbC a to k).2 - (zbC a to k).1:=by omega
  have hro:=zBo a to;have hr0:=hW.r0;have hr1:=hW.r1;have hrr:=hW.rr;have hrw:=hW.r
  have hwk:IntKind.i64.wrap (k*zaS a to)=k*zaS a to:=zah (by omega) (by omega)
  simp only [zcl,decide_eq_false hnl,zaq,hro,zad,za3,zaF,hwk]
  have hk16:k < 16:=by rcases hrw with e | e | e<;>rw [e] at hr1 hr0<;>omega
  let s2:Nat→Ben→(Nat×List D×Int×List D×(Int×Int×Int×PUnit)×Int×Int×Int×PUnit)×List (List D)×List (List D)×PUnit:=fun j B'=>
   ((b,live.map D.bool,k,pL Q,(to.l,to.d,to.c,PUnit.unit),(zbC a to k).1,zaS a to,k*zaS a to+j,PUnit.unit),P0 T0 b idx B',P1 T1 idx B',PUnit.unit)
  have hs2:s2 0 B=((b,live.map D.bool,k,pL Q,(to.l,to.d,to.c,PUnit.unit),(zbC a to k).1,zaS a to,k*zaS a to,PUnit.unit),P0 T0 b idx B,P1 T1 idx B,PUnit.unit):=by
   simp only [zcl,s2,Int.natCast_zero,Int.add_zero]
  rw [←hs2]
  have hrr':(if (B.wRows live a to k data).1=0 then (B.wRows live a to k data).2.sFlush live else B.wRows live a to k data)=(fun y:Int×Ben=>if y.1=0 then y.2.sFlush live else y) (B.wRows live a to k data):=rfl
  rw [hrr'];unfold Ben.wRows
  have hRow:∀ r:Int,k*zaS a to≤r→r < (k+1)*zaS a to→Row to (rowW a to k data r)∧zcv to r=true:=by
   intro r r0 r1
   refine ⟨⟨by simp [rowW]; omega,fun x hx=>?_⟩,zbm.2 ⟨hW.yok,by omega,by omega⟩⟩
   obtain ⟨j,hj,rfl⟩:=List.mem_map.1 hx;have hj:=List.mem_range.1 hj
   obtain ⟨n0,n1⟩:=zrx hW r0 r1 (j:=(j:Int)) (by omega) (by omega)
   have hi:(numP to r j - (zbC a to k).1).toNat < data.length:=by omega
   exact hs _ (zc3 hi) (zI9 hall' hi)
  refine zoC (fun j B'=>B'.sWrite live to (k*zaS a to+j) (rowW a to k data (k*zaS a to+j))) (fun j B'=>Nx (8*j) B B') s2 (fun y=>some (Ans.mk (.int .i64 (if y.1=0 then y.2.sFlush live else y).1) [] [P0 T0 b idx (if y.1=0 then y.2.sFlush live else y).2,P1 T1 idx (if y.1=0 then y.2.sFlush live else y).2])) (zaS a to).toNat (by omega) (.rfl' h.ok (by omega)) ?_ ?_ ?_
  ·rintro i B' hi hx he
   obtain ⟨hR,hr⟩:=hRow (k*zaS a to+i) (by omega) (by omega)
   exact (hx.trans (zDF hx.ok hr hR)).mono (by omega)
  ·rintro again i B' hi hx
   dsimp only [zcl,s2];have hA:=h.nx hx;have hxw:=hx.w
   obtain ⟨hR,hr⟩:=hRow (k*zaS a to+i) (by omega) (by omega)
   have hsw:=zqR hA (by omega) .lent live to (k*zaS a to+i) .lent (ps:=(rowW a to k data (k*zaS a to+i)).map fun x=>(zb0 .fresh x,x)) (by simp [rowW]; omega) (by intro x hx; obtain ⟨y,hy,rfl⟩:=List.mem_map.1 hx; exact hR.sec y hy)
   have hsnd:((rowW a to k data (k*zaS a to+i)).map fun x=>(zb0 .fresh x,x)).map (·.2)=rowW a to k data (k*zaS a to+i):=by rw [List.map_map]; exact List.map_id _
   rw [hsnd] at hsw
   have hwk1:IntKind.i64.wrap (k+1)=k+1:=zah (by omega) (by omega)
   have hwk2:IntKind.i64.wrap ((k+1)*zaS a to)=(k+1)*zaS a to:=zah (by omega) (by omega)
   have hlt:k*zaS a to+(i:Int) < (k+1)*zaS a to:=by omega
   have hnums:=ztl to (k*zaS a to+i)
   have hnd:zoG to (k*zaS a to+i)=numD to (k*zaS a to+i) to.width.toNat:=by unfold zoG; rw [if_pos hr]
   rw [hnd] at hnums
   simp (disch:=first | omega | assumption | (simp; done) | fail) only [zcl,zaF,hwk1,hwk2,decide_eq_true hlt,zaX,hnums,zad,zbA,zaa,Nat.zero_add,Nat.le_refl,zfp]
   have hwi:IntKind.i64.wrap (k*zaS a to+(i:Int)+1)=k*zaS a to+((i+1:Nat):Int):=by rw [zah (by omega) (by omega)]; omega
   generalize hr':k*zaS a to+(i:Int)=r at*
   let s3:Nat→(Nat×List D×Int×List D×(Int×Int×Int×PUnit)×Int×Int×Int×List D×List D×Int×Int×PUnit)×List (List D)×List (List D)×PUnit:=fun j=>
    ((b,live.map D.bool,k,pL Q,(to.l,to.d,to.c,PUnit.unit),(zbC a to k).1,zaS a to,r,pL ((((List.range j).map fun (j:Nat)=>data.getD (numP to r j - (zbC a to k).1).toNat [])).map fun x=>(zb0 .fresh x,x)),numD to r to.width.toNat,((to.width.toNat:Nat):Int),(j:Int),PUnit.unit),P0 T0 b idx B',P1 T1 idx B',PUnit.unit)
   show zb3 _ (s3 0)=_
   refine zca s3 to.width.toNat (by omega) ?_ ?_
   ·intro again j hj;dsimp only [zcl,s3]
    obtain ⟨n0,n1⟩:=zrx hW (r:=r) (by omega) (by omega) (j:=(j:Int)) (by omega) (by omega)
    have hi:(numP to r j - (zbC a to k).1).toNat < data.length:=by omega
    have hg:=hqg hi
    have hgn:(numD to r to.width.toNat)[j]? =some (.int .i64 (numP to r j)):=zoH to r to.width.toNat (by omega)
    have hlt:(j:Int) < ((to.width.toNat:Nat):Int):=by omega
    have hwn:IntKind.i64.wrap (numP to r j - (zbC a to k).1)=numP to r j - (zbC a to k).1:=zah (by omega) (by omega)
    have hsucc:pL ((((List.range j).map fun (j:Nat)=>data.getD (numP to r j - (zbC a to k).1).toNat [])).map fun x=>(zb0 .fresh x,x))++[D.sl (zb0 .fresh (data.getD (numP to r j - (zbC a to k).1).toNat [])) (uL (data.getD (numP to r j - (zbC a to k).1).toNat []))]=
     pL ((((List.range (j+1)).map fun (j:Nat)=>data.getD (numP to r j - (zbC a to k).1).toNat [])).map fun x=>(zb0 .fresh x,x)):=by
     rw [List.range_succ]; simp [pL]
    simp (disch:=first | omega | assumption | (simp; done) | fail) only [zcl,decide_eq_true hlt,zaX,zaa,Int.toNat_natCast,Nat.zero_add,zal hgn,za3,zaF,hwn,zal hg,zc0,hsucc,zah,List.length_append,List.length_cons,List.length_nil,zfp,ztf,List.length_map,List.length_range]
    rw [show ((j+1:Nat):Int)=(j:Int)+1 by omega]
   ·intro again;dsimp only [zcl,s3]
    have hnl2:¬ ((to.width.toNat:Nat):Int) < ((to.width.toNat:Nat):Int):=by omega
    have hcut:∀ l:List D,cut 0 l.length l=l:=fun l=>zqk rfl
    have hrw:((List.range to.width.toNat).map fun (j:Nat)=>data.getD (numP to r j - (zbC a to k).1).toNat [])=rowW a to k data r:=rfl
    rw [hrw];simp only [zcl,decide_eq_false hnl2,zaq]
    rw [zaa (by omega),hcut]
    refine Eq.trans (congrArg (fun x=>zan x _) hsw) ?_
    simp only [zcl,zad,zci,zex,za3]
    by_cases he:(B'.sWrite live to r (rowW a to k data r)).1=0
    ·rw [he,zlb rfl,if_pos rfl,zaF,hwi]
    ·rw [zFB he,if_neg he,if_neg he]
  ·rintro again B' hx
   dsimp only [zcl,s2];have hA:=h.nx hx;have hxw:=hx.w
   have hsf:=zqS hA (by omega) .lent live
   have hp:P0 T0 b idx (B'.sFlush live).2=P0 T0 b idx B':=zDE _ _ (zDC B' live)
   have hwk1:IntKind.i64.wrap (k+1)=k+1:=zah (by omega) (by omega)
   have hwk2:IntKind.i64.wrap ((k+1)*zaS a to)=(k+1)*zaS a to:=zah (by omega) (by omega)
   have hnl:¬ k*zaS a to+(((zaS a to).toNat:Nat):Int) < (k+1)*zaS a to:=by omega
   simp only [zcl,zaF,hwk1,hwk2,decide_eq_false hnl,zaq,hsf,zad,zci,zex,za3,if_true,hp]
end
end Wf

namespace Wf
open Go Go.RowKit Go.Proofs
set_option linter.unusedSimpArgs false
set_option linter.unusedVariables false
set_option maxHeartbeats 4000000
theorem zu0 {σ:Type} {f g:Nat→σ→Int×σ} (I:Nat→σ→Prop):∀ (n k:Nat) (s:σ),I k s→(∀ j s,k≤j→j < k+n→I j s→f j s=g j s)→(∀ j s,k≤j→j < k+n→I j s→(f j s).1=0→I (j+1) (f j s).2)→runE f k n s=runE g k n s
 | 0,k,s,_,_,_=>rfl
 | n+1,k,s,hI,h1,h2=>by
  unfold runE
  have e:=h1 k s (by omega) (by omega) hI
  have h3:=h2 k s (by omega) (by omega) hI
  rw [←e]
  by_cases h0:(f k s).1=0
  ·rw [if_pos h0,if_pos h0]
   exact zu0 I n (k+1) _ (h3 h0) (fun j s a b=>h1 j s (by omega) (by omega)) fun j s a b=>h2 j s (by omega) (by omega)
  ·rw [if_neg h0,if_neg h0]
section
variable {B B':Ben} {live:List Bool}
theorem Like.wActs (h:Like B B') (g:Geo) (r:Int) (data:List (List Int)):B'.wActs live g r data=B.wActs live g r data:=by
 unfold Ben.wActs;simp only [h.up]
theorem Like.fActs (h:Like B B'):B'.fActs live=B.fActs live:=by
 unfold Ben.fActs
 have:B'.ds.length=B.ds.length:=by have:=h.1; unfold Ben.n at this; omega
 rw [this];simp only [h.up]
theorem zya {as':List Act} (h:Does B as'):Like B (does B as'):=⟨h.nx.n,h.failed⟩
theorem zBp {g:Geo} {r:Int} {data:List (List Int)} {e b:Int} (e0:0≤e) (c:Int→Int→List Int):
  curs c (B.wActs live g r data) e b=if b=36+r∧e < g.d∧B.up live e=true then atR g r data e else c e b:=by
 by_cases hc:b=36+r∧e < g.d∧B.up live e=true
 ·rw [if_pos hc,hc.1]
  have:=zxC (B:=B) (live:=live) (g:=g) (r:=r) (data:=data) (d:=e.toNat) (by omega) (by rw [show ((e.toNat:Nat):Int)=e by omega]; exact hc.2.2) c
  rw [show ((e.toNat:Nat):Int)=e by omega] at this
  exact this
 ·rw [if_neg hc]
  refine zi0 (fun a ha=>?_) _
  unfold Ben.wActs at ha;obtain ⟨d,hd,ha⟩:=List.mem_flatMap.1 ha;have hd:=List.mem_range.1 hd;split at ha
  ·rename_i hu;rw [List.mem_singleton.1 ha]
   unfold Act.at
   dsimp only;rw [decide_eq_false_iff_not]
   rintro ⟨rfl,rfl⟩
   exact hc ⟨rfl,by omega,hu⟩
  ·cases ha
theorem zBq {e b:Int} (c:Int→Int→List Int):curs c (B.fActs live) e b=c e b:=zi0 (zAh e b) c
def Act.d:Act→Int
 | .w d _ _=>d
 | .f d=>d
theorem zDG {e:Int} (e0:0≤e):∀ (l:List Act) {B:Ben},B.Ok→(∀ a∈l,a.Ok B)→(∀ a∈l,a.d≠e)→(does B l).nP e=B.nP e
 | [],B,_,_,_=>rfl
 | a::l,B,hB,h1,h2=>by
  have ha:=h1 a (List.mem_cons_self ..);show (does (B.does1 a) l).nP e=_
  rw [zDG e0 l (zmk hB ha).ok (fun c hc=>zrp hB ha (h1 c (List.mem_cons_of_mem _ hc))) fun c hc=>h2 c (List.mem_cons_of_mem _ hc),zAu ha e0]
  have:=h2 a (List.mem_cons_self ..)
  cases a with
  | w d a x=>exact if_neg (fun q=>this q.symm)
  | f d=>exact if_neg (fun q=>this q.symm)
theorem zHe {g:Geo} {r:Int} {data:List (List Int)}:∀ a∈B.wActs live g r data,B.up live a.d=true∧0≤a.d∧a.d < g.d:=fun a ha=>by
 unfold Ben.wActs at ha;obtain ⟨d,hd,ha⟩:=List.mem_flatMap.1 ha;have hd:=List.mem_range.1 hd;split at ha
 ·rename_i hu;rw [List.mem_singleton.1 ha]
  exact ⟨hu,by show (0:Int)≤(d:Int); omega,by show (d:Int) < _; omega⟩
 ·cases ha
theorem zHf {l:List Act} (hB:B.Ok) (hd:B.down=false) (hD:Does B l) (hok:∀ a∈l,a.Ok B) (hup:∀ a∈l,B.up live a.d=true) {e:Int} (e0:0≤e):
  (does B (l++B.fActs live)).nP e=if B.up live e=true then 0 else B.nP e:=by
 rw [zsC,←(zya hD).fActs,zFg (zDD hB hok).1 e0,(zya hD).up]
 by_cases hu:B.up live e=true
 ·rw [if_pos hu,if_pos hu]
 ·rw [if_neg hu,if_neg hu]
  exact zDG e0 l hB hok fun a ha q=>hu (by rw [←q]; exact hup a ha)
end
section
variable {a to:Geo} {k:Int} {data:List (List Int)}
structure WinD (a to:Geo) (k:Int) (data:List (List Int)):Prop where
 k0:0≤k
 k1:k < winP a to
 len:(data.length:Int)=(zbC a to k).2 - (zbC a to k).1
 sec:∀ x∈data,Sec x
theorem WinD.win (h:WinD a to k data):Win a to k:=znc h.k0 h.k1
theorem WinD.row (h:WinD a to k data) {r:Int} (r0:k*zaS a to≤r) (r1:r < (k+1)*zaS a to):Row to (rowW a to k data r)∧zcv to r=true:=by
 have hW:=h.win;have:=hW.r0;have:=hW.r1;have hyw:=zbL hW.yok;have hl:=h.len
 refine ⟨⟨by simp [rowW]; omega,fun x hx=>?_⟩,zbm.2 ⟨hW.yok,by omega,by omega⟩⟩
 obtain ⟨j,hj,rfl⟩:=List.mem_map.1 hx;have hj:=List.mem_range.1 hj
 obtain ⟨n0,n1⟩:=zrx hW r0 r1 (j:=(j:Int)) (by omega) (by omega)
 exact h.sec _ (zc3 (by omega))
def Ben.wwA (B:Ben) (live:List Bool) (a to:Geo) (k:Int) (data:List (List Int)) (m:Nat):List Act:=
 (List.range m).flatMap fun (j:Nat)=>B.wActs live to (k*zaS a to+j) (rowW a to k data (k*zaS a to+j))
def Ben.wwActs (B:Ben) (live:List Bool) (a to:Geo) (k:Int) (data:List (List Int)):List Act:=B.wwA live a to k data (zaS a to).toNat++B.fActs live
variable {B:Ben} {live:List Bool}
theorem zzl (h:WinD a to k data) {x:Act} (hx:x∈B.wwA live a to k data (zaS a to).toNat):∃ r:Int,k*zaS a to≤r∧r < (k+1)*zaS a to∧x∈B.wActs live to r (rowW a to k data r):=by
 obtain ⟨j,hj,hx⟩:=List.mem_flatMap.1 hx;have hj:=List.mem_range.1 hj;have:=h.win.rr
 exact ⟨k*zaS a to+j,by omega,by omega,hx⟩
theorem zDH (h:WinD a to k data):∀ x∈B.wwActs live a to k data,x.Ok B:=fun x hx=>by
 rcases List.mem_append.1 hx with hx | hx
 ·obtain ⟨r,r0,r1,hx⟩:=zzl h hx;obtain ⟨hR,hr⟩:=h.row r0 r1;exact zAg hr hR x hx
 ·exact zvQ x hx
theorem zDI (h:WinD a to k data):nW (B.wwActs live a to k data)≤32:=by
 have hW:=h.win;have hd:=ok_d hW.yok
 have:∀ m:Nat,nW (B.wwA live a to k data m)≤8*m:=by
  intro m
  induction m with
  | zero=>simp [nW,Ben.wwA]
  | succ m ih=>
   unfold Ben.wwA at ih ⊢;rw [List.range_succ,List.flatMap_append,zsD];simp only [List.flatMap_cons,List.flatMap_nil,List.append_nil];have:=zrv B live to (k*zaS a to+m) (rowW a to k data (k*zaS a to+m));omega
 have h2:=this (zaS a to).toNat;unfold Ben.wwActs;rw [zsD,zrw];rcases hW.r with e | e | e<;>rw [e] at h2 ⊢<;>simp at h2 ⊢<;>omega
theorem zzm (hB:B.Ok) (h:WinD a to k data):B.wWrite live a to k data=runA (B.wwActs live a to k data) B:=by
 have hW:=h.win;have hl:=h.len;have hrr:=hW.rr;unfold Ben.wWrite
 rw [if_neg (by
  rintro (e | e | e)
  ·rw [zrz.2 ⟨h.k0,h.k1⟩] at e; cases e
  ·exact e hl
  ·rw [List.all_eq_true.2 (fun x hx=>by simpa using (h.sec x hx).len)] at e; cases e)]
 have hrows:B.wRows live a to k data=runA (B.wwA live a to k data (zaS a to).toNat) B:=by
  unfold Ben.wRows Ben.wwA
  rw [zu0 (g:=fun j B'=>runA (B.wActs live to (k*zaS a to+(j:Nat)) (rowW a to k data (k*zaS a to+(j:Nat)))) B') (fun _ B'=>B'.Ok∧Like B B') _ _ _ ⟨hB,.refl B⟩ ?_ ?_,zpn,List.range_eq_range']
  ·rintro j B' _ hj ⟨hB',hL⟩
   obtain ⟨hR,hr⟩:=h.row (r:=k*zaS a to+(j:Nat)) (by omega) (by omega)
   unfold Ben.sWrite
   rw [zi1 hr hR,if_neg (by simp),hL.wActs]
  ·rintro j B' _ hj ⟨hB',hL⟩ _
   obtain ⟨hR,hr⟩:=h.row (r:=k*zaS a to+(j:Nat)) (by omega) (by omega)
   unfold Ben.sWrite
   rw [zi1 hr hR,if_neg (by simp)]
   obtain ⟨h1,h2⟩:=zwr _ hB' (ztp (B:=B') (live:=live) hr hR);exact ⟨h1.ok,hL.trans h2⟩
 rw [hrows];unfold Ben.wwActs;rw [znu]
 obtain ⟨h1,h2⟩:=zwr (B.wwA live a to k data (zaS a to).toNat) hB (fun x hx=>by
  obtain ⟨r,r0,r1,hx⟩:=zzl h hx;obtain ⟨hR,hr⟩:=h.row r0 r1;exact ztp hr hR x hx)
 unfold Ben.sFlush;rw [h2.fActs]
theorem zzn (h:WinD a to k data) {e b:Int} (e0:0≤e) (c:Int→Int→List Int):
  curs c (B.wwActs live a to k data) e b=if k*zaS a to≤b - 36∧b - 36 < (k+1)*zaS a to∧e < to.d∧B.up live e=true then atR to (b - 36) (rowW a to k data (b - 36)) e else c e b:=by
 have hW:=h.win;have hrr:=hW.rr;unfold Ben.wwActs;rw [znv,zBq]
 have key:∀ m:Nat,curs c (B.wwA live a to k data m) e b=if k*zaS a to≤b - 36∧b - 36 < k*zaS a to+m∧e < to.d∧B.up live e=true then atR to (b - 36) (rowW a to k data (b - 36)) e else c e b:=by
  intro m
  induction m with
  | zero=>rw [if_neg (by omega)]; rfl
  | succ m ih=>
   unfold Ben.wwA at ih ⊢;rw [List.range_succ,List.flatMap_append,znv];simp only [List.flatMap_cons,List.flatMap_nil,List.append_nil];rw [zBp e0,ih]
   by_cases hb:b=36+(k*zaS a to+m)
   ·by_cases hc:e < to.d∧B.up live e=true
    ·rw [if_pos ⟨hb,hc⟩,if_pos ⟨by omega,by omega,hc⟩,show b - 36=k*zaS a to+m by omega]
    ·rw [if_neg (fun q=>hc q.2),if_neg (fun q=>hc q.2.2),if_neg (fun q=>hc q.2.2)]
   ·rw [if_neg (fun q=>hb q.1)]
    by_cases hc:k*zaS a to≤b - 36∧b - 36 < k*zaS a to+m∧e < to.d∧B.up live e=true
    ·rw [if_pos hc,if_pos ⟨hc.1,by omega,hc.2.2⟩]
    ·rw [if_neg hc,if_neg (fun q=>hc ⟨q.1,by omega,q.2.2⟩)]
 rw [key]
 have:k*zaS a to+((zaS a to).toNat:Int)=(k+1)*zaS a to:=by rcases hW.r with e | e | e<;>omega
 rw [this]
end
section
variable {U V:Tb} {b:Nat} {idx:List Nat} {B:Ben} {n:Nat} {K:Int}
theorem Run.win (h:Run U V b idx B n K) (hK:K≤800000) (tg:Tag) (live:List Bool) {a to:Geo} {k:Int} (tg2:Tag) {data:List (List Int)} (hD:WinD a to k data):∃ B1,
  zb1 [.h kB b 0,.sl tg (live.map D.bool),.agg [.int .i64 a.l,.int .i64 a.d,.int .i64 a.c],.agg [.int .i64 to.l,.int .i64 to.d,.int .i64 to.c],.int .i64 k,.sl tg2 (pL (fP data))] [P0 U b idx B,P1 V idx B]=some (Ans.mk (.int .i64 0) [] [P0 U b idx B1,P1 V idx B1])∧
  Run U V b idx B1 n (K+32)∧(∀ e,B1.failed e=B.failed e)∧B1=does B (B.wwActs live a to k data)∧
  (∀ e x:Int,0≤e→0≤x→x < 52→B1.cur e x=if k*zaS a to≤x - 36∧x - 36 < (k+1)*zaS a to∧e < to.d∧B.up live e=true then atR to (x - 36) (rowW a to k data (x - 36)) e else B.cur e x)∧
  (∀ e:Int,0≤e→B1.nP e=if B.up live e=true then 0 else B.nP e):=by
 have hw:=h.w;have hl:=hD.len;have hm:=hD.win.m;have hss:=hD.win.ss
 have hww:=zx9 h.at' (by omega) tg live a to k tg2 (data:=data) (by omega) (fun x hx _=>hD.sec x hx)
 have hok:=zDH (B:=B) (live:=live) hD
 have hDo:=zoE (B.wwActs live a to k data) h.at'.ok h.down hok (.inl (by rw [h.left]; omega))
 rw [zzm h.at'.ok hD,hDo.run] at hww;have hn:=zDI (B:=B) (live:=live) hD;have hnx:=hDo.nx.w
 refine ⟨_,hww,⟨h.at'.nx hDo.nx,hDo.nx.n.trans h.num,hDo.down.trans h.down,by rw [hDo.left,h.left]; rfl,by show (does B (B.wwActs live a to k data)).w≤K+32; omega⟩,hDo.failed,rfl,fun e x e0 x0 x1=>?_,fun e e0=>?_⟩
 ·rw [hDo.cur e x e0 x0 x1,zzn hD e0]
 ·have hDo2:=zoE (B.wwA live a to k data (zaS a to).toNat) h.at'.ok h.down (fun x hx=>hok x (List.mem_append_left _ hx)) (.inl (by rw [h.left]; omega))
  exact zHf h.at'.ok h.down hDo2 (fun x hx=>hok x (List.mem_append_left _ hx)) (fun x hx=>by
   obtain ⟨r,r0,r1,hx⟩:=zzl hD hx;exact (zHe x hx).1) e0
theorem zHg (T0 T1:Tb) {n:Nat} (h0:1≤n) (h8:n≤8):∃ U V idx,
  zbH [.int .i64 n] [T0,T1]=some (Ans.mk (.tup [.h kB T0.length 0,.int .i64 0]) [] [P0 U T0.length idx (Ben.new n),P1 V idx (Ben.new n)])∧
  Run U V T0.length idx (Ben.new n) n 0∧Still (Ben.new n):=
 ⟨_,_,_,zIs T0 T1 h0 h8,⟨zDu T0 T1 h8,by simp [Ben.new,Ben.n],rfl,rfl,Int.le_refl _⟩,zx5 h8⟩
theorem zyb {live:List Bool} {a to:Geo} {k:Int} (k0:0≤k) (k1:k < winP a to) (v:Int→List Int) (hv:∀ m,(zbC a to k).1≤m→m < (zbC a to k).2→B.wOne live a m=(v m,0)):
  B.wRead live a to k=((List.range ((zbC a to k).2 - (zbC a to k).1).toNat).map fun (j:Nat)=>v ((zbC a to k).1+j),0):=by
 have key:∀ (m j:Nat) (acc:List (List Int)),j+m=((zbC a to k).2 - (zbC a to k).1).toNat→runE (B.wStep live a (zbC a to k).1) j m acc=(0,acc++(List.range' j m).map fun (j:Nat)=>v ((zbC a to k).1+j)):=by
  intro m
  induction m with
  | zero=>intro j acc _; simp [runE]
  | succ m ih=>
   intro j acc hj
   have h1:=hv ((zbC a to k).1+j) (by omega) (by omega)
   have:B.wStep live a (zbC a to k).1 j acc=(0,acc++[v ((zbC a to k).1+j)]):=by unfold Ben.wStep; rw [h1,if_pos rfl]
   unfold runE
   rw [this,if_pos rfl,ih (j+1) _ (by omega),List.range'_succ]
   simp
 unfold Ben.wRead Ben.wGo
 rw [zrz.2 ⟨k0,k1⟩,if_neg (by simp),key _ 0 [] (by omega),List.range_eq_range']
 simp
end
end Wf

namespace Wf
open Go Go.RowKit Go.Proofs
set_option linter.unusedSimpArgs false
set_option linter.unusedVariables false
set_option maxHeartbeats 4000000
theorem zHh:zbx []=some (.bool true):=by
 have e:=zkR
 rw [e,zaa (by rfl)]
 unfold zfa
 obtain ⟨U,V,idx,hnew,hB,hS⟩:=zHg [] [] (n:=4) (by omega) (by omega)
 have hrd:=ztq hB.at' (by have:=hB.w; omega) .full [true,true,true,true] ⟨5,3,1⟩ ⟨5,4,1⟩ 15
 have hx:=zyb (B:=Ben.new 4) (live:=[true,true,true,true]) (a:=⟨5,3,1⟩) (to:=⟨5,4,1⟩) (k:=15) (by omega) (by decide) (fun _=>zez) (fun m m0 m1=>by
  have h45:(zbC ⟨5,3,1⟩ ⟨5,4,1⟩ 15).1=45:=by decide
  rw [h45] at m0;unfold Ben.wOne
  rw [if_pos (by show (32:Int)≤m; omega)])
 rw [hx] at hrd
 have hl:(List.range ((zbC ⟨5,3,1⟩ ⟨5,4,1⟩ 15).2 - (zbC ⟨5,3,1⟩ ⟨5,4,1⟩ 15).1).toNat).map (fun (j:Nat)=>zez)=[zez,zez,zez]:=by
  rw [show ((zbC ⟨5,3,1⟩ ⟨5,4,1⟩ 15).2 - (zbC ⟨5,3,1⟩ ⟨5,4,1⟩ 15).1).toNat=3 by decide]; rfl
 rw [hl] at hrd;have hrd':zbh [.h kB 0 0,.sl .full [.bool true,.bool true,.bool true,.bool true],.agg [.int .i64 5,.int .i64 3,.int .i64 1],.agg [.int .i64 5,.int .i64 4,.int .i64 1],.int .i64 15] [P0 U 0 idx (Ben.new 4),P1 V idx (Ben.new 4)]=some (Ans.mk (.tup [.sl .own (pL (fP [zez,zez,zez])),.int .i64 0]) [] []):=hrd;have hp:pL (fP [zez,zez,zez])=[.sl .fresh (uL zez),.sl .fresh (uL zez),.sl .fresh (uL zez)]:=rfl;rw [hp] at hrd'
 have hs:=ztc .fresh .lent zez zez (by decide)
 have hnew':zbH [.int .i64 4] [[],[]]=some (Ans.mk (.tup [.h kB 0 0,.int .i64 0]) [] [P0 U 0 idx (Ben.new 4),P1 V idx (Ben.new 4)]):=hnew;simp [hnew',hrd',zhs,hs,zry]
end Wf

namespace Wf
open Go Go.RowKit Go.Proofs
set_option linter.unusedSimpArgs false
set_option linter.unusedVariables false
set_option maxHeartbeats 4000000
section
variable {B:Ben}
theorem Like.lostN {B':Ben} (h:Like B B') (live:List Bool) (g:Geo):B'.lostN live g=B.lostN live g:=by unfold Ben.lostN; simp only [h.up]
end
section
variable {U V:Tb} {b:Nat} {idx:List Nat} {B:Ben} {n:Nat} {K:Int}
end
end Wf

namespace Wf
open Go Go.RowKit Go.Proofs
set_option linter.unusedSimpArgs false
set_option linter.unusedVariables false
set_option maxHeartbeats 4000000
theorem zDJ {ks:List Bool} {k:Nat} (h:k < ks.length):(ks.map D.bool)[k]? =some (.bool ((ks[k]?).getD false)):=by
 rw [List.getElem?_map,List.getElem?_eq_getElem h]; rfl
section
variable {T:Tb} {i:Nat} {s:DS}
end
section
variable {B:Ben}
end
section
variable {T0 T1:Tb} {b:Nat} {idx:List Nat} {B:Ben}
end
end Wf

namespace Wf
open Go Go.RowKit Go.Proofs
set_option linter.unusedSimpArgs false
set_option linter.unusedVariables false
set_option maxHeartbeats 4000000
section
variable {T0 T1:Tb} {b:Nat} {idx:List Nat} {B:Ben}
structure Aside (U V:Tb) (b:Nat) (idx:List Nat) (b2:Nat) (idx2:List Nat) (C:Ben):Prop where
 ne:b2≠b
 lt:b2 < U.length
 row:U[b2]? =some (bRow C idx2)
 nd:idx2.Nodup
 len:idx2.length=C.ds.length
 ok:C.Ok
 g:C.g=[]
 dis:∀ i∈idx2,i ∉ idx
 cells:∀ (j i:Nat) (c:List D),idx2[j]? =some i→(C.ds.map DS.cells)[j]? =some c→V[i]? =some c
theorem Aside.vlt {U V:Tb} {b:Nat} {idx:List Nat} {b2:Nat} {idx2:List Nat} {C:Ben} (h:Aside U V b idx b2 idx2 C):∀ i∈idx2,i < V.length:=fun i hi=>by
 obtain ⟨j,hj,rfl⟩:=List.mem_iff_getElem.1 hi
 have h2:=h.cells j idx2[j] ((C.ds.map DS.cells)[j]'(by rw [List.length_map,←h.len]; exact hj)) (List.getElem?_eq_getElem hj) (List.getElem?_eq_getElem _)
 exact (List.getElem?_eq_some_iff.1 h2).1
theorem Aside.at' {U V:Tb} {b:Nat} {idx:List Nat} {b2:Nat} {idx2:List Nat} {C:Ben} (h:Aside U V b idx b2 idx2 C) (B1:Ben):At (P0 U b idx B1) (P1 V idx B1) b2 idx2 C:=by
 have e0:∀ X:Tb,(P0 X b idx B1).length=X.length:=fun X=>zId
 have e1:∀ X:Tb,(P1 X idx B1).length=X.length+B1.g.length:=fun X=>zIc
 exact ⟨by rw [e0]; exact h.lt,h.nd,fun i hi=>by rw [e1]; have:=h.vlt i hi; omega,h.len,h.ok⟩
theorem Aside.p0 {U V:Tb} {b:Nat} {idx:List Nat} {b2:Nat} {idx2:List Nat} {C:Ben} (h:Aside U V b idx b2 idx2 C) (B1:Ben):P0 (P0 U b idx B1) b2 idx2 C=P0 U b idx B1:=by
 refine zCN ?_;unfold P0
 rw [List.getElem?_set,if_neg (fun q=>h.ne q.symm)]
 exact h.row
theorem Aside.get {U V:Tb} {b:Nat} {idx:List Nat} {b2:Nat} {idx2:List Nat} {C:Ben} (h:Aside U V b idx b2 idx2 C) (B1:Ben) {i:Nat} (hi:i∈idx2):(P1 V idx B1)[i]? =V[i]? :=by
 unfold P1
 rw [List.getElem?_append_left (by rw [zoD]; exact h.vlt i hi),zuD _ _ _ (h.dis i hi)]
theorem Aside.p1 {U V:Tb} {b:Nat} {idx:List Nat} {b2:Nat} {idx2:List Nat} {C:Ben} (h:Aside U V b idx b2 idx2 C) (B1:Ben):P1 (P1 V idx B1) idx2 C=P1 V idx B1:=by
 show putL _ _ (C.ds.map DS.cells)++C.g=_;rw [h.g,List.append_nil]
 refine zsB fun j i c h1 h2=>?_
 rw [h.get B1 (List.mem_of_getElem? h1)];exact h.cells j i c h1 h2
end
section
variable {U V:Tb} {b:Nat} {idx:List Nat} {B:Ben} {n:Nat} {K:Int}
theorem Aside.read {b2:Nat} {idx2:List Nat} {C:Ben} (h:Aside U V b idx b2 idx2 C) (hw:C.w≤1000000) (B1:Ben) (d a:Int):
  zaw [.h kB b2 0,.int .i64 d,.int .i64 a] [P0 U b idx B1,P1 V idx B1]=some (Ans.mk (.tup [.sl .own (uL (C.read d a).1),.int .i64 (C.read d a).2]) [] []):=by
 have:=zxX (h.at' B1) hw d a;rw [h.p0,h.p1] at this;exact this
end
end Wf

namespace Wf
open Go Go.RowKit Go.Proofs
set_option linter.unusedSimpArgs false
set_option linter.unusedVariables false
set_option maxHeartbeats 4000000
section
variable {T0 T1:Tb}
end
end Wf

namespace Wf
open Go Go.RowKit Go.Proofs
set_option linter.unusedSimpArgs false
set_option linter.unusedVariables false
set_option maxHeartbeats 4000000
theorem zDK (l:List Bool) (i:Nat) (b:Bool):(l.map D.bool).set i (.bool b)=(l.set i b).map D.bool:=by rw [List.map_set]
theorem zHi {n:Nat} {d e:Int} (d0:0≤d) (e0:0≤e):(((List.replicate n true).set d.toNat false)[e.toNat]?).getD false=(decide (e < n) && !decide (e=d)):=by
 rw [List.getElem?_set]
 by_cases h:d.toNat=e.toNat
 ·rw [if_pos h]
  have:e=d:=by omega
  simp [this];split<;>rfl
 ·rw [if_neg h,List.getElem?_replicate]
  have h2:¬ e=d:=by omega
  by_cases h3:e < n
  ·rw [if_pos (by omega)]; simp [h2,h3]
  ·rw [if_neg (by omega)]; simp [h3]
theorem zFP {B:Ben} {n:Nat} (hn:B.n=n) {d e:Int} (d0:0≤d) (e0:0≤e):B.up ((List.replicate n true).set d.toNat false) e=(decide (e < n) && !decide (e=d) && !B.failed e):=by
 unfold Ben.up;rw [zHi d0 e0,hn];cases decide (e < (n:Int))<;>simp
theorem zFk {B:Ben} {live:List Bool} {g:Geo} {d:Int} (hg:0≤g.d) (h:∀ e:Int,0≤e→e < g.d→e≠d→B.up live e=true):B.lostN live g≤1:=by
 unfold Ben.lostN
 refine zDx (a:=d.toNat) fun i hi hp=>?_
 by_cases he:(i:Int)=d
 ·omega
 ·rw [h i (by omega) (by omega) he] at hp; cases hp
section
variable {U V:Tb} {b:Nat} {idx:List Nat} {B:Ben} {n:Nat} {K:Int}
end
end Wf

namespace Wf
open Go Go.RowKit Go.Proofs
set_option linter.unusedSimpArgs false
set_option linter.unusedVariables false
set_option maxHeartbeats 4000000
section
variable {U V:Tb} {b:Nat} {idx:List Nat} {B:Ben} {n:Nat} {K:Int}
theorem zFl {d a:Int} (hd:B.is d=true) (hdn:B.down=false) (hf:B.failed d=false) (a0:0≤a) (a1:a < 52):B.read d a=(B.cur d a,0):=by
 unfold Ben.read
 rw [may0.2 ⟨hd,hdn⟩,if_neg (by simp)]
 unfold DS.read;rw [ziZ hd] at hf
 rw [znt.2 ⟨hf,a0,a1⟩,if_neg (by simp)]
 rfl
theorem Run.bread (h:Run U V b idx B n K) (hK:K≤900000) {d a:Int} (d0:0≤d) (d1:d < n) (hf:B.failed d=false) (a0:0≤a) (a1:a < 52):
  zaw [.h kB b 0,.int .i64 d,.int .i64 a] [P0 U b idx B,P1 V idx B]=some (Ans.mk (.tup [.sl .own (uL (B.cur d a)),.int .i64 0]) [] []):=by
 have:=zxX h.at' (by have:=h.w; omega) d a
 rw [zFl (h.is d0 d1) h.down hf a0 a1] at this;exact this
theorem Run.pend (h:Run U V b idx B n K) (hK:K≤900000) (hn:∀ e:Int,0≤e→B.nP e=0):za7 [.h kB b 0] [P0 U b idx B,P1 V idx B]=some (Ans.mk (.int .i64 0) [] []):=by
 have:=zDa h.at' (by have:=h.w; omega)
 rw [zx8 fun j _=>hn j (by omega)] at this
 exact this
end
end Wf

namespace Wf
open Go Go.RowKit Go.Proofs
set_option linter.unusedSimpArgs false
set_option linter.unusedVariables false
set_option maxHeartbeats 4000000
section
variable {U V:Tb} {b:Nat} {idx:List Nat} {B:Ben} {n:Nat} {K:Int}
theorem zAw (h:Still B) (e:Int):B.nP e=0:=by unfold Ben.nP; rw [(h.dk e).2]; rfl
end
end Wf

namespace Wf
open Go Go.RowKit Go.Proofs
set_option linter.unusedSimpArgs false
set_option linter.unusedVariables false
set_option maxHeartbeats 4000000
section
variable {B:Ben}
end
section
variable {T0 T1:Tb} {b:Nat} {idx:List Nat} {B:Ben}
end
end Wf

namespace Wf
open Go Go.RowKit Go.Proofs
set_option linter.unusedSimpArgs false
set_option linter.unusedVariables false
set_option maxHeartbeats 4000000
@[simp] theorem zDP {R:Type} (a b c:D) (f:LfT [.any,.any,.any]→Option R):zaz [.any,.any,.any] [a,b,c] f=f (a,b,c,()):=by rw [zc4,zc4,zc4,zee]
section
variable {B:Ben} {live:List Bool}
def zgH (g:Geo) (dat:Nat→List (List Int)) (n:Int):List Int:=if g.cap≤n then zez else (dat (rowG g n).toNat).getD (zdq g n).toNat []
theorem zrA {g:Geo} {dat:Nat→List (List Int)} (hR:∀ r:Nat,r < 16→Row g (dat r)) {n:Int} (n0:0≤n):Sec (zgH g dat n):=by
 unfold zgH;split
 ·exact zxr
 ·rename_i h
  obtain ⟨hf,c0,c1,_⟩:=zgB n0 (show n < g.cap by omega)
  obtain ⟨hk,r0,r1⟩:=zbm.1 hf
  have hr:=hR (rowG g n).toNat (by omega)
  exact hr.sec _ (zc3 (by have:=hr.len; omega))
end
end Wf

namespace Wf
open Go Go.RowKit Go.Proofs
set_option linter.unusedSimpArgs false
set_option linter.unusedVariables false
set_option maxHeartbeats 4000000
def OldR (B:Ben) (live:List Bool) (a:Geo) (dat:Nat→List (List Int)) (lo:Int):Prop:=
 ∀ r:Nat,r < 16→lo≤r→∀ e:Int,0≤e→e < a.d→B.up live e=true→B.cur e (36+r)=atR a r (dat r) e
def newW (a to:Geo) (dat:Nat→List (List Int)) (r:Int):List (List Int):=(List.range to.width.toNat).map fun (j:Nat)=>zgH a dat (numP to r j)
def NewR (B:Ben) (live:List Bool) (a to:Geo) (dat:Nat→List (List Int)) (lo:Int):Prop:=
 ∀ r:Nat,(r:Int) < lo→∀ e:Int,0≤e→e < to.d→B.up live e=true→B.cur e (36+r)=atR to r (newW a to dat r) e
def winL (a to:Geo) (dat:Nat→List (List Int)) (k:Int):List (List Int):=(List.range ((zbC a to k).2 - (zbC a to k).1).toNat).map fun (j:Nat)=>zgH a dat ((zbC a to k).1+j)
section
variable {B B1:Ben} {live:List Bool} {a to:Geo} {dat:Nat→List (List Int)} {k:Int}
theorem OldR.mono {lo hi:Int} (h:OldR B live a dat lo) (hl:lo≤hi):OldR B live a dat hi:=fun r r1 r2=>h r r1 (by omega)
theorem OldR.read {lo:Int} (h:OldR B live a dat lo) (k0:0≤k) (k1:k < winP a to) (hlo:lo≤k*zaS a to) (hR:∀ r:Nat,r < 16→Row a (dat r)) (hdn:B.down=false) (hlost:(B.lostN live a:Int)≤a.l - 4):
  B.wRead live a to k=(winL a to dat k,0):=by
 have hW:=znc k0 k1;have hs0:=hW.s0
 refine zyb k0 k1 (zgH a dat) fun n n0 n1=>?_
 unfold Ben.wOne zgH
 by_cases hc:a.cap≤n
 ·rw [if_pos hc,if_pos hc]
 ·rw [if_neg hc,if_neg hc]
  have hlt:n < a.cap:=by omega
  obtain ⟨hf,c0,c1,_⟩:=zgB (show 0≤n by omega) hlt
  obtain ⟨hk,r0,r1⟩:=zbm.1 hf;have ho:=zHc hW n0 hlt
  have e:(((rowG a n).toNat:Nat):Int)=rowG a n:=by omega
  rw [zGP (by omega) hlt (hR (rowG a n).toNat (by omega)) hdn fun d d0 d1 hu=>by
   have:=h (rowG a n).toNat (by omega) (by omega) d d0 d1 hu
   rw [e] at this; exact this]
  rw [if_pos (.inr hlost)]
theorem zFm (h:0≤(zbC a to k).2 - (zbC a to k).1):((winL a to dat k).length:Int)=(zbC a to k).2 - (zbC a to k).1:=by
 unfold winL; rw [List.length_map,List.length_range]; omega
theorem zAx {j:Nat} (h:(j:Int) < (zbC a to k).2 - (zbC a to k).1):(winL a to dat k)[j]? =some (zgH a dat ((zbC a to k).1+j)):=by
 unfold winL
 rw [List.getElem?_map,List.getElem?_range (by omega)]; rfl
theorem zHj (k0:0≤k) (k1:k < winP a to) (hR:∀ r:Nat,r < 16→Row a (dat r)):WinD a to k (winL a to dat k):=by
 have hW:=znc k0 k1;have hs0:=hW.s0;have hss:=hW.ss;have hm:=hW.m
 refine ⟨k0,k1,zFm (by omega),fun x hx=>?_⟩
 obtain ⟨j,hj,rfl⟩:=List.mem_map.1 hx
 exact zrA hR (by omega)
theorem zFn {r:Int} (k0:0≤k) (k1:k < winP a to) (r0:k*zaS a to≤r) (r1:r < (k+1)*zaS a to):rowW a to k (winL a to dat k) r=newW a to dat r:=by
 have hW:=znc k0 k1;have hyw:=zbL hW.yok;unfold rowW newW
 refine List.map_congr_left fun j hj=>?_
 have hj:=List.mem_range.1 hj
 obtain ⟨n0,n1⟩:=zrx hW r0 r1 (j:=(j:Int)) (by omega) (by omega)
 rw [List.getD_eq_getElem?_getD,zAx (by omega)]
 show zgH a dat _=_;congr 1;omega
theorem zJa (k0:0≤k) (k1:k < winP a to) (hup:∀ e:Int,0≤e→B1.up live e=B.up live e)
  (hc:∀ e x:Int,0≤e→0≤x→x < 52→B1.cur e x=if k*zaS a to≤x - 36∧x - 36 < (k+1)*zaS a to∧e < to.d∧B.up live e=true then atR to (x - 36) (rowW a to k (winL a to dat k) (x - 36)) e else B.cur e x)
  {lo:Int} (hlo:lo≤(k+1)*zaS a to) (ho:OldR B live a dat lo):OldR B1 live a dat ((k+1)*zaS a to)∧(NewR B live a to dat (k*zaS a to)→NewR B1 live a to dat ((k+1)*zaS a to)):=by
 have hW:=znc k0 k1;have hr1:=hW.r1
 refine ⟨fun r r1 r2 e e0 e1 hu=>?_,fun hn r r2 e e0 e1 hu=>?_⟩
 ·rw [hup e e0] at hu
  rw [hc e _ e0 (by omega) (by omega),if_neg (by omega)]
  exact ho r r1 (by omega) e e0 e1 hu
 ·rw [hup e e0] at hu
  rw [hc e _ e0 (by omega) (by omega),show (36+(r:Int)) - 36=r by omega]
  by_cases hr:k*zaS a to≤(r:Int)
  ·rw [if_pos ⟨hr,r2,e1,hu⟩,zFn k0 k1 hr r2]
  ·rw [if_neg (fun q=>hr q.1)]
   exact hn r (by omega) e e0 e1 hu
end
end Wf

namespace Wf
open Go Go.RowKit Go.Proofs
set_option linter.unusedSimpArgs false
set_option linter.unusedVariables false
set_option maxHeartbeats 4000000
structure MvS (U V:Tb) (b:Nat) (idx:List Nat) (n:Nat) (live:List Bool) (a:Geo) (dat:Nat→List (List Int)) (lo:Int) (K:Int) (C:Ben):Prop where
 run:Run U V b idx C n K
 old:OldR C live a dat lo
 lost:(C.lostN live a:Int)≤a.l - 4
def Ben.mv1 (C:Ben) (live:List Bool) (a to:Geo) (dat:Nat→List (List Int)) (k:Int):Ben:=does C (C.wwActs live a to k (winL a to dat k))
section
variable {U V:Tb} {b:Nat} {idx:List Nat} {n:Nat} {live:List Bool} {a to:Geo} {dat:Nat→List (List Int)} {lo K k:Int} {C:Ben}
theorem MvS.read (h:MvS U V b idx n live a dat lo K C) (hK:K≤800000) (tg:Tag) (k0:0≤k) (k1:k < winP a to) (hlo:lo≤k*zaS a to) (hR:∀ r:Nat,r < 16→Row a (dat r)):
  zbh [.h kB b 0,.sl tg (live.map D.bool),.agg [.int .i64 a.l,.int .i64 a.d,.int .i64 a.c],.agg [.int .i64 to.l,.int .i64 to.d,.int .i64 to.c],.int .i64 k] [P0 U b idx C,P1 V idx C]=
   some (Ans.mk (.tup [.sl .own (pL (fP (winL a to dat k))),.int .i64 0]) [] []):=by
 have:=ztq h.run.at' (by have:=h.run.w; omega) tg live a to k
 rw [h.old.read k0 k1 hlo hR h.run.down h.lost] at this;exact this
theorem MvS.write (h:MvS U V b idx n live a dat lo K C) (hK:K≤800000) (tg tg2:Tag) (k0:0≤k) (k1:k < winP a to) (hlo:lo≤(k+1)*zaS a to) (hR:∀ r:Nat,r < 16→Row a (dat r)):
  zb1 [.h kB b 0,.sl tg (live.map D.bool),.agg [.int .i64 a.l,.int .i64 a.d,.int .i64 a.c],.agg [.int .i64 to.l,.int .i64 to.d,.int .i64 to.c],.int .i64 k,.sl tg2 (pL (fP (winL a to dat k)))] [P0 U b idx C,P1 V idx C]=
   some (Ans.mk (.int .i64 0) [] [P0 U b idx (C.mv1 live a to dat k),P1 V idx (C.mv1 live a to dat k)])∧
  MvS U V b idx n live a dat ((k+1)*zaS a to) (K+32) (C.mv1 live a to dat k)∧(∀ e,(C.mv1 live a to dat k).failed e=C.failed e)∧
  (NewR C live a to dat (k*zaS a to)→NewR (C.mv1 live a to dat k) live a to dat ((k+1)*zaS a to))∧
  (∀ e:Int,0≤e→(C.mv1 live a to dat k).nP e=if C.up live e=true then 0 else C.nP e):=by
 obtain ⟨B1,e1,r1,f1,d1,c1,p1⟩:=h.run.win hK tg live tg2 (zHj k0 k1 hR);have hB:B1=C.mv1 live a to dat k:=d1;rw [←hB];have hL:Like C B1:=⟨r1.num.trans h.run.num.symm,f1⟩
 obtain ⟨m1,m2⟩:=zJa k0 k1 (fun e _=>hL.up live e) c1 hlo h.old
 exact ⟨e1,⟨r1,m1,by rw [hL.lostN]; exact h.lost⟩,f1,m2,p1⟩
def Ben.mv (C:Ben) (live:List Bool) (a to:Geo) (dat:Nat→List (List Int)) (k:Int):Nat→Ben
 | 0=>C
 | j+1=>(C.mv live a to dat k j).mv1 live a to dat (k+j)
theorem MvS.mv (h:MvS U V b idx n live a dat (k*zaS a to) K C) (hK:K≤400000) (k0:0≤k) (hR:∀ r:Nat,r < 16→Row a (dat r)):∀ j:Nat,k+j≤winP a to→j≤100→
  MvS U V b idx n live a dat ((k+j)*zaS a to) (K+32*j) (C.mv live a to dat k j)∧(∀ e,(C.mv live a to dat k j).failed e=C.failed e)∧
  (NewR C live a to dat (k*zaS a to)→NewR (C.mv live a to dat k j) live a to dat ((k+j)*zaS a to))∧
  ((∀ e:Int,0≤e→C.nP e=0)→∀ e:Int,0≤e→(C.mv live a to dat k j).nP e=0)
 | 0,_,_=>by
  rw [show k+((0:Nat):Int)=k by omega]
  exact ⟨⟨h.run.mono (by omega),h.old,h.lost⟩,fun _=>rfl,fun q=>q,fun q=>q⟩
 | j+1,hj,hj2=>by
  obtain ⟨i1,i2,i3,i4⟩:=MvS.mv h hK k0 hR j (by omega) (by omega)
  have hp:=(znc (x:=a) (y:=to) (k:=k+j) (by omega) (by omega)).rr
  have hp2:=(znc (x:=a) (y:=to) (k:=k+j) (by omega) (by omega)).r
  obtain ⟨_,w1,w2,w3,w4⟩:=i1.write (k:=k+j) (to:=to) (by omega) .lent .lent (by omega) (by omega) (by omega) hR
  rw [show k+((j+1:Nat):Int)=k+j+1 by omega,show K+32*((j+1:Nat):Int)=K+32*j+32 by omega]
  refine ⟨w1,fun e=>(w2 e).trans (i2 e),fun q=>w3 (i3 q),fun q e e0=>?_⟩
  show ((C.mv live a to dat k j).mv1 live a to dat (k+j)).nP e=0;rw [w4 e e0,i4 q e e0];split<;>rfl
end
end Wf

namespace Wf
open Go Go.RowKit Go.Proofs
set_option linter.unusedSimpArgs false
set_option linter.unusedVariables false
theorem zDL (n i:Int) (z v:D) (es:List (Int×D)):zk4 n z (setD i v es)=if n=i then v else zk4 n z es:=by
 unfold zk4
 induction es with
 | nil=>
  simp only [setD,zhh]
  by_cases h:n=i
  ·rw [if_pos h,if_pos h]; rfl
  ·rw [if_neg h,if_neg h]
 | cons e es ih=>
  obtain ⟨a,u⟩:=e;simp only [setD]
  by_cases h1:i=a
  ·subst h1;rw [if_pos rfl];simp only [zhh]
   by_cases h:n=i
   ·rw [if_pos h,if_pos h]; rfl
   ·rw [if_neg h,if_neg h,if_neg h]
  ·rw [if_neg h1];simp only [zhh]
   by_cases h:n=a
   ·rw [if_pos h,if_pos h,if_neg (by omega)]
   ·rw [if_neg h,if_neg h]; exact ih
def wm1 (g:Geo) (dat:Nat→List (List Int)) (r:Nat) (es:List (Int×D)):Nat→List (Int×D)
 | 0=>es
 | k+1=>setD (numP g r k) (.sl .fresh (uL ((dat r).getD k []))) (wm1 g dat r es k)
def wmap (g:Geo) (dat:Nat→List (List Int)):Nat→List (Int×D)
 | 0=>[]
 | r+1=>wm1 g dat r (wmap g dat r) g.width.toNat
section
variable {g:Geo} {dat:Nat→List (List Int)}
theorem zDM {r:Nat} {k:Nat} {n:Int} (hk:g.ok=true) (hr:r < 16) (h:(k:Int) < g.width):n=numP g r k↔(0≤n∧n < g.cap)∧rowG g n=r∧zdq g n=k:=by
 have hf:zcv g (r:Int)=true:=zbm.2 ⟨hk,by omega,by omega⟩
 constructor
 ·rintro rfl
  have h1:=zCT hf (k:=(k:Int)) (by omega) h
  have hin:0≤numP g r k∧numP g r k < g.cap:=by
   refine Classical.byContradiction fun hq=>?_
   unfold ofP at h1;rw [if_neg hq] at h1
   exact absurd (congrArg (·.2.2) h1) (by simp)
  have h2:rowG g (numP g r k)=r:=by
   unfold ofP at h1;rw [if_pos hin] at h1
   exact congrArg (·.2.1) h1
  refine ⟨hin,h2,?_⟩;obtain ⟨_,c0,c1,h3⟩:=zgB hin.1 hin.2;rw [h2] at h3
  exact zDn hf c0 c1 (by omega) h h3
 ·rintro ⟨⟨h0,h1⟩,h2,h3⟩
  have:=(zgB h0 h1).2.2.2;rw [h2,h3] at this;exact this.symm
theorem zAy (hk:g.ok=true) {r:Nat} (hr:r < 16) (n:Int) (es:List (Int×D)) (z:D):∀ k:Nat,(k:Int)≤g.width→
  zk4 n z (wm1 g dat r es k)=if (0≤n∧n < g.cap)∧rowG g n=r∧zdq g n < k then .sl .fresh (uL (zgH g dat n)) else zk4 n z es
 | 0,_=>by
  rw [if_neg]
  ·rfl
  ·rintro ⟨⟨h0,h1⟩,_,h3⟩
   have:=(zgB h0 h1).2.1
   omega
 | k+1,h=>by
  show zk4 n z (setD (numP g r k) (.sl .fresh (uL ((dat r).getD k []))) (wm1 g dat r es k))=_
  rw [zDL,zAy hk hr n es z k (by omega)]
  have hn:=zDM (n:=n) hk hr (k:=k) (by omega)
  by_cases h1:n=numP g r k
  ·obtain ⟨hin,h2,h3⟩:=hn.1 h1
   rw [if_pos h1,if_pos ⟨hin,h2,by omega⟩]
   unfold zgH
   rw [if_neg (by omega),h2,h3,Int.toNat_natCast,Int.toNat_natCast]
  ·rw [if_neg h1]
   by_cases h2:(0≤n∧n < g.cap)∧rowG g n=r∧zdq g n < k
   ·rw [if_pos h2,if_pos ⟨h2.1,h2.2.1,by omega⟩]
   ·rw [if_neg h2,if_neg]
    rintro ⟨q1,q2,q3⟩
    by_cases hc:zdq g n=k
    ·exact h1 (hn.2 ⟨q1,q2,hc⟩)
    ·exact h2 ⟨q1,q2,by omega⟩
theorem zyc (hk:g.ok=true) (n:Int) (z:D):∀ r:Nat,r≤16→zk4 n z (wmap g dat r)=if (0≤n∧n < g.cap)∧rowG g n < r then .sl .fresh (uL (zgH g dat n)) else z
 | 0,_=>by
  rw [if_neg]
  ·rfl
  ·rintro ⟨⟨h0,h1⟩,h2⟩
   have:=(zbm.1 (zgB h0 h1).1).2.1
   omega
 | r+1,h=>by
  have hw:=zbL hk;show zk4 n z (wm1 g dat r (wmap g dat r) g.width.toNat)=_
  rw [zAy hk (by omega) n _ z _ (by omega),zyc hk n z r (by omega)]
  by_cases h0:0≤n∧n < g.cap
  ·have:=(zgB h0.1 h0.2).2.2.1
   by_cases h1:rowG g n=r
   ·rw [if_pos ⟨h0,h1,by omega⟩,if_pos ⟨h0,by omega⟩]
   ·rw [if_neg (fun q=>h1 q.2.1)]
    by_cases h2:rowG g n < r
    ·rw [if_pos ⟨h0,h2⟩,if_pos ⟨h0,by omega⟩]
    ·rw [if_neg (fun q=>h2 q.2),if_neg (fun q=>by have:=q.2; omega)]
  ·rw [if_neg (fun q=>h0 q.1),if_neg (fun q=>h0 q.1),if_neg (fun q=>h0 q.1)]
theorem zFo (hk:g.ok=true) {n:Int} (h0:0≤n) (z:D):zk4 n z (wmap g dat 16)=if n < g.cap then .sl .fresh (uL (zgH g dat n)) else z:=by
 rw [zyc hk n z 16 (by omega)]
 by_cases h:n < g.cap
 ·have:=(zbm.1 (zgB h0 h).1).2.2
  rw [if_pos ⟨⟨h0,h⟩,by omega⟩,if_pos h]
 ·rw [if_neg (fun q=>h q.1.2),if_neg h]
theorem zFp {a to:Geo} (ht:to.ok=true) (hR:∀ r:Nat,r < 16→Row a (dat r)) {r:Int} (r0:0≤r) (r1:r < 16):Row to (newW a to dat r):=by
 have hw:=zbL ht
 refine ⟨by simp [newW]; omega,fun x hx=>?_⟩
 obtain ⟨j,hj,rfl⟩:=List.mem_map.1 hx;have hj:=List.mem_range.1 hj
 have hn:=(zDM (g:=to) (r:=r.toNat) (k:=j) (n:=numP to r j) ht (by omega) (by omega)).1 (by rw [show ((r.toNat:Nat):Int)=r by omega])
 exact zrA hR hn.1.1
end
end Wf

namespace Wf
open Go Go.RowKit Go.Proofs
open PUnit (unit)
set_option linter.unusedVariables false
set_option maxRecDepth 100000
def zep:Ann:={ loops:=[(1,dd 2 (.val (.cell .lent)::dd 6 [.box true [(.int .i64),(.int .i64),(.int .i64)],.box true [(.int .i64),(.int .i64),(.int .i64)],.ptr 2496,.own 1,.val (.cell (.int .i64))])),(2,dd 2 (.val (.cell .lent)::dd 6 [.box true [(.int .i64),(.int .i64),(.int .i64)],.box true [(.int .i64),(.int .i64),(.int .i64)],.ptr 2496,.own 1,.val (.cell (.int .i64)),.map (.int .i64),.val (.cell (.int .i64))])),(4,dd 2 (.val (.cell .lent)::dd 6 (.box true [(.int .i64),(.int .i64),(.int .i64)]::.box true [(.int .i64),(.int .i64),(.int .i64)]::.ptr 2496::.own 1::.val (.cell (.int .i64))::.map (.int .i64)::.val (.cell (.int .i64))::.own 1::dd 60 [.own 1,.val (.cell (.int .i64)),.val (.cell (.int .i64))]))),(6,dd 9 (.box true [(.int .i64),(.int .i64),(.int .i64)]::.box true [(.int .i64),(.int .i64),(.int .i64)]::.ptr 2496::.own 1::.val (.cell (.int .i64))::.map (.int .i64)::dd 4 [.val (.cell (.int .i64))])),(9,dd 9 (.box true [(.int .i64),(.int .i64),(.int .i64)]::.box true [(.int .i64),(.int .i64),(.int .i64)]::.ptr 2496::.own 1::.val (.cell (.int .i64))::.map (.int .i64)::dd 4 (.val (.cell (.int .i64))::.own 1::.dead::.val (.cell (.int .i64))::dd 102 [.val (.cell (.int .i64)),.val (.cell (.int .i64))]))),(11,dd 9 (.box true [(.int .i64),(.int .i64),(.int .i64)]::.box true [(.int .i64),(.int .i64),(.int .i64)]::.ptr 2496::.own 1::.val (.cell (.int .i64))::.map (.int .i64)::dd 4 (.val (.cell (.int .i64))::.own 1::.dead::.val (.cell (.int .i64))::.dead::.val (.cell (.int .i64))::.val (.cell .sl)::dd 99 [.val (.cell (.int .i64)),.val (.cell (.int .i64))]))),(14,dd 10 (.box true [(.int .i64),(.int .i64),(.int .i64)]::.ptr 2496::.dead::.val (.cell (.int .i64))::.map (.int .i64)::dd 11 [.val (.cell (.int .i64))])),(16,dd 10 (.box true [(.int .i64),(.int .i64),(.int .i64)]::.ptr 2496::.dead::.val (.cell (.int .i64))::.map (.int .i64)::dd 11 (.val (.cell (.int .i64))::.own 1::dd 136 [.own 1,.val (.cell (.int .i64)),.val (.cell (.int .i64))]))),(18,dd 10 (.box true [(.int .i64),(.int .i64),(.int .i64)]::.ptr 2496::.dead::.val (.cell (.int .i64))::.map (.int .i64)::dd 11 (.val (.cell (.int .i64))::.own 1::dd 2 (.val (.cell .sl)::dd 133 [.own 1,.val (.cell (.int .i64)),.val (.cell (.int .i64))])))),(19,dd 10 (.box true [(.int .i64),(.int .i64),(.int .i64)]::.ptr 2496::.dead::.val (.cell (.int .i64))::.map (.int .i64)::dd 11 (.val (.cell (.int .i64))::dd 4 (.own 1::.val (.cell .bool)::dd 156 [.val (.cell (.int .i64)),.val (.cell (.int .i64))]))))],ks:=[(2496,true),(8225,true)] }
noncomputable def zdx:Zp:=denT Tryz.prog (zax [(ID.wattleplay_Pair,(.pure [0,0] zbN)),(ID.wattlelaw14_Filled,(.st [] [0] [(2496,true),(8225,true)] zbd)),(ID.wattleplay_Live,(.pure [1] zbP)),(ID.wattlekeep_Within,(.pure [0] zac)),(ID.bench_Bench_Fail,(.st [] [0] [(2496,false),(8225,true)] zbs)),(ID.wattlelaw14_Data,(.pure [1] zbG)),(ID.wattleref01_Numbers,(.pure [1] zaZ)),(ID.wattleref01_Windows,(.pure [0] zaD)),(ID.window_Read,(.st [] [1,0] [(2496,false),(8225,false)] zbh)),(ID.wattleref01_Span,(.pure [0,0] zbr)),(ID.wattlekeep_Same_byte,(.pure [0] zau)),(ID.window_Write,(.st [] [0] [(2496,true),(8225,true)] zb1)),(ID.bench_Bench_Pending,(.st [] [0] [(2496,false),(8225,false)] za7)),(ID.wattleref01_Fill,(.pure [1,0] zaM)),(ID.bench_Bench_Read,(.st [] [1,0] [(2496,false),(8225,false)] zaw)),(ID.wattlelaw20_wakes,(.pure [0] zbx))]) zep [0] ID.wattlelaw20_WindowMoves
theorem sound_wattlelaw20_WindowMoves:za2 Tryz.prog ID.wattlelaw20_WindowMoves (.pure [0] zdx):=zuy (zaA [zmy,zjT,zmJ,zde,zlY,zlW,zjo,zfe,zkl,zlT,zeU,zqh,zjq,zgt,zek,zkQ]) zbn ⟨Tryz.f7,by kernel_rfl,by kernel_rfl,by kernel_rfl⟩
noncomputable def zdy (zbN:Zp) (zbd:Zs) (zbP zac:Zp) (zbs:Zs) (zbG zaZ zaD:Zp) (zbh:Zs) (zbr zau:Zp) (zb1 za7:Zs) (zaM:Zp) (zaw:Zs) (zbx:Zp) (a0 a1:Int) (a2:List D) (a3:Int):Option D:=
 zan (zbN [.int .i64 a0,.int .i64 a1]) fun r1=>
 zdP r1 fun ts2=>
 zaz ([Lf.any,Lf.any]) ts2 fun c3=>
 asAgg c3.1 fun cs4=>
 zaz ([Lf.int .i64,Lf.int .i64,Lf.int .i64]) cs4 fun c5=>
 asAgg c3.2.1 fun cs6=>
 zaz ([Lf.int .i64,Lf.int .i64,Lf.int .i64]) cs6 fun c7=>
 zan (zbd [.agg [.int .i64 c5.1,.int .i64 c5.2.1,.int .i64 c5.2.2.1],.int .i64 c7.2.1,.sl .lent a2] [[],[]]) fun r8=>
 nilK r8.outs <|
 zeE r8.tbs fun c9 q10=>
 zeE q10 fun c11 q12=>
 nilK q12 <|
 sif (zhs r8.r=true) <|
 zpv r8.r fun b13=>
 brK b13
  (some (.bool false))
  (zan (zbP [.int .i64 0,.int .i64 c7.2.1]) fun r14=>
  zbe r14 fun l15=>
  zan (zac [.int .i64 a3,.int .i64 3]) fun r16=>
  asI .i64 r16 fun i17=>
  jn (α:=(List D×(Int×Int×Int×PUnit)×(Int×Int×Int×PUnit)×D×List D×Int×PUnit)×List (List D)×List (List D)×PUnit) (fun a18=>
    sif (List.length a18.1.2.2.2.2.1=List.length a18.1.2.2.2.2.1) <|
    zb3 (α:=(List D×(Int×Int×Int×PUnit)×(Int×Int×Int×PUnit)×D×List D×Int×List (Int×D)×Int×PUnit)×List (List D)×List (List D)×PUnit) (fun again19 ((l20,((i21,(i22,(i23,_))),((i24,(i25,(i26,_))),(x27,(l28,(i29,(l30,(i31,_)))))))),(U32,(U33,_)))=>
     brK (decide (i31 < 16))
      (zan (zbG [.agg [.int .i64 i21,.int .i64 i22,.int .i64 i23],.int .i64 i31,.sl .lent l20]) fun r34=>
      zbe r34 fun l35=>
      zan (zaZ [.agg [.int .i64 i21,.int .i64 i22,.int .i64 i23],.int .i64 i31]) fun r36=>
      zbe r36 fun l37=>
      sif (0+l37.length≤l37.length) <|
      sif (l28.length=l28.length) <|
      sif (l35.length=l35.length) <|
      sif (l37.length=l37.length) <|
      zb3 (α:=(List D×(Int×Int×Int×PUnit)×(Int×Int×Int×PUnit)×D×List D×Int×List (Int×D)×Int×List D×List D×Int×Int×PUnit)×List (List D)×List (List D)×PUnit) (fun again38 ((l39,((i40,(i41,(i42,_))),((i43,(i44,(i45,_))),(x46,(l47,(i48,(l49,(i50,(l51,(l52,(i53,(i54,_)))))))))))),(U55,(U56,_)))=>
       brK (decide (i54 < i53))
        (sif (0≤i54) <|
        sif (i54.toNat < l52.length) <|
        getK l52 (0+i54.toNat) fun d57=>
        asI .i64 d57 fun i58=>
        sif (0≤i54) <|
        sif (i54.toNat < l51.length) <|
        getK l51 (0+i54.toNat) fun d59=>
        asSl d59 fun t60 l61=>
        letN (IntKind.i64.wrap (i54+1)) fun n62=>
        sif (l47.length=l47.length) <|
        sif (l51.length=l51.length) <|
        sif (l52.length=l52.length) <|
        again38 (((l39,(i40,i41,i42,unit),(i43,i44,i45,unit),x46,l47,i48,setD i58 (.sl t60 l61) l49,i50,l51,l52,i53,n62,unit),U55,U56,unit)))
        (letN (IntKind.i64.wrap (i50+1)) fun n63=>
        sif (l47.length=l47.length) <|
        again19 (((l39,(i40,i41,i42,unit),(i43,i44,i45,unit),x46,l47,i48,l49,n63,unit),U55,U56,unit))))
       (((l20,(i21,i22,i23,unit),(i24,i25,i26,unit),x27,l28,i29,l30,i31,l35,l37,(↑(l37.length):Int),(0:Int),unit),U32,U33,unit)))
      (sif (l28.length=l28.length) <|
      zb3 (α:=((Int×Int×Int×PUnit)×(Int×Int×Int×PUnit)×D×List D×Int×List (Int×D)×Int×PUnit)×List (List D)×List (List D)×PUnit) (fun again64 (((i65,(i66,(i67,_))),((i68,(i69,(i70,_))),(x71,(l72,(i73,(l74,(i75,_))))))),(U76,(U77,_)))=>
       zan (zaD [.agg [.int .i64 i65,.int .i64 i66,.int .i64 i67],.agg [.int .i64 i68,.int .i64 i69,.int .i64 i70]]) fun r78=>
       asI .i64 r78 fun i79=>
       brK (decide (i75 < i79))
        (sif (0+l72.length≤l72.length) <|
        zan (zbh [x71,.sl .lent (cut 0 l72.length l72),.agg [.int .i64 i65,.int .i64 i66,.int .i64 i67],.agg [.int .i64 i68,.int .i64 i69,.int .i64 i70],.int .i64 i75] [U76,U77]) fun r80=>
        nilK r80.outs <|
        nilK r80.tbs <|
        zdP r80.r fun ts81=>
        zaz ([Lf.any,Lf.any]) ts81 fun c82=>
        zbe c82.1 fun l83=>
        asI .i64 c82.2.1 fun i84=>
        zan (zbr [.agg [.int .i64 i65,.int .i64 i66,.int .i64 i67],.agg [.int .i64 i68,.int .i64 i69,.int .i64 i70],.int .i64 i75]) fun r85=>
        zdP r85 fun ts86=>
        zaz ([Lf.any,Lf.any]) ts86 fun c87=>
        asI .i64 c87.1 fun i88=>
        asI .i64 c87.2.1 fun i89=>
        brK (i84 != 0)
         (some (.bool false))
         (sif (0+l83.length≤l83.length) <|
         letN (IntKind.i64.wrap (i89 - i88)) fun n90=>
         brK ((↑(l83.length):Int) != n90)
          (some (.bool false))
          (sif (0+l83.length≤l83.length) <|
          sif (l72.length=l72.length) <|
          sif (l83.length=l83.length) <|
          zb3 (α:=((Int×Int×Int×PUnit)×(Int×Int×Int×PUnit)×D×List D×Int×List (Int×D)×Int×List D×Int×Int×Int×PUnit)×List (List D)×List (List D)×PUnit) (fun again91 (((i92,(i93,(i94,_))),((i95,(i96,(i97,_))),(x98,(l99,(i100,(l101,(i102,(l103,(i104,(i105,(i106,_))))))))))),(U107,(U108,_)))=>
           brK (decide (i106 < i105))
            (letN (IntKind.i64.wrap (i104+i106)) fun n109=>
            asSl (zk4 n109 (.sl .nil []) l101) fun t110 l111=>
            brK (List.isEmpty l111)
             (if t110=Tag.nn then
             (jn (α:=((Int×Int×Int×PUnit)×(Int×Int×Int×PUnit)×D×List D×Int×List (Int×D)×Int×List D×Int×Int×(Tag×List D)×Int×Int×PUnit)×List (List D)×List (List D)×PUnit) (fun a113=>
               sif (0≤a113.1.2.2.2.2.2.2.2.2.2.1) <|
               sif (Int.toNat a113.1.2.2.2.2.2.2.2.2.2.1 < List.length a113.1.2.2.2.2.2.2.2.1) <|
               getK a113.1.2.2.2.2.2.2.2.1 (0+Int.toNat a113.1.2.2.2.2.2.2.2.2.2.1) fun d114=>
               asSl d114 fun t115 l116=>
               zan (zau [.sl t115 l116,.sl a113.1.2.2.2.2.2.2.2.2.2.2.1.1 a113.1.2.2.2.2.2.2.2.2.2.2.1.2]) fun r117=>
               asB r117 fun b118=>
               brK (!b118)
                (some (.bool false))
                (letN (IntKind.i64.wrap (a113.1.2.2.2.2.2.2.2.2.2.2.2.2.1+1)) fun n119=>
                sif (List.length a113.1.2.2.2.1=List.length a113.1.2.2.2.1) <|
                sif (List.length a113.1.2.2.2.2.2.2.2.1=List.length a113.1.2.2.2.2.2.2.2.1) <|
                again91 ((((a113.1.1.1,a113.1.1.2.1,a113.1.1.2.2.1,unit),(a113.1.2.1.1,a113.1.2.1.2.1,a113.1.2.1.2.2.1,unit),a113.1.2.2.1,a113.1.2.2.2.1,a113.1.2.2.2.2.1,a113.1.2.2.2.2.2.1,a113.1.2.2.2.2.2.2.1,a113.1.2.2.2.2.2.2.2.1,a113.1.2.2.2.2.2.2.2.2.1,a113.1.2.2.2.2.2.2.2.2.2.2.2.1,n119,unit),a113.2.1,a113.2.2.1,unit))))
              (fun j120=>
              sif (l99.length=l99.length) <|
              sif (l103.length=l103.length) <|
              j120 ((((i92,i93,i94,unit),(i95,i96,i97,unit),x98,l99,i100,l101,i102,l103,i104,i106,(t110,l111),i105,i106,unit),U107,U108,unit))))
             else
             (if t110=Tag.nul then
             (jn (α:=((Int×Int×Int×PUnit)×(Int×Int×Int×PUnit)×D×List D×Int×List (Int×D)×Int×List D×Int×Int×(Tag×List D)×Int×Int×PUnit)×List (List D)×List (List D)×PUnit) (fun a123=>
               sif (0≤a123.1.2.2.2.2.2.2.2.2.2.1) <|
               sif (Int.toNat a123.1.2.2.2.2.2.2.2.2.2.1 < List.length a123.1.2.2.2.2.2.2.2.1) <|
               getK a123.1.2.2.2.2.2.2.2.1 (0+Int.toNat a123.1.2.2.2.2.2.2.2.2.2.1) fun d124=>
               asSl d124 fun t125 l126=>
               zan (zau [.sl t125 l126,.sl a123.1.2.2.2.2.2.2.2.2.2.2.1.1 a123.1.2.2.2.2.2.2.2.2.2.2.1.2]) fun r127=>
               asB r127 fun b128=>
               brK (!b128)
                (some (.bool false))
                (letN (IntKind.i64.wrap (a123.1.2.2.2.2.2.2.2.2.2.2.2.2.1+1)) fun n129=>
                sif (List.length a123.1.2.2.2.1=List.length a123.1.2.2.2.1) <|
                sif (List.length a123.1.2.2.2.2.2.2.2.1=List.length a123.1.2.2.2.2.2.2.2.1) <|
                again91 ((((a123.1.1.1,a123.1.1.2.1,a123.1.1.2.2.1,unit),(a123.1.2.1.1,a123.1.2.1.2.1,a123.1.2.1.2.2.1,unit),a123.1.2.2.1,a123.1.2.2.2.1,a123.1.2.2.2.2.1,a123.1.2.2.2.2.2.1,a123.1.2.2.2.2.2.2.1,a123.1.2.2.2.2.2.2.2.1,a123.1.2.2.2.2.2.2.2.2.1,a123.1.2.2.2.2.2.2.2.2.2.2.2.1,n129,unit),a123.2.1,a123.2.2.1,unit))))
              (fun j130=>
              sif (l99.length=l99.length) <|
              sif (l103.length=l103.length) <|
              j130 ((((i92,i93,i94,unit),(i95,i96,i97,unit),x98,l99,i100,l101,i102,l103,i104,i106,(Tag.fresh,[.int .u8 0,.int .u8 0,.int .u8 0,.int .u8 0,.int .u8 0,.int .u8 0,.int .u8 0,.int .u8 0,.int .u8 0,.int .u8 0,.int .u8 0,.int .u8 0,.int .u8 0,.int .u8 0,.int .u8 0,.int .u8 0,.int .u8 0,.int .u8 0,.int .u8 0,.int .u8 0,.int .u8 0,.int .u8 0,.int .u8 0,.int .u8 0,.int .u8 0,.int .u8 0,.int .u8 0,.int .u8 0,.int .u8 0,.int .u8 0,.int .u8 0,.int .u8 0]),i105,i106,unit),U107,U108,unit))))
             else
             (sif (t110=Tag.nil) <|
             jn (α:=((Int×Int×Int×PUnit)×(Int×Int×Int×PUnit)×D×List D×Int×List (Int×D)×Int×List D×Int×Int×(Tag×List D)×Int×Int×PUnit)×List (List D)×List (List D)×PUnit) (fun a132=>
               sif (0≤a132.1.2.2.2.2.2.2.2.2.2.1) <|
               sif (Int.toNat a132.1.2.2.2.2.2.2.2.2.2.1 < List.length a132.1.2.2.2.2.2.2.2.1) <|
               getK a132.1.2.2.2.2.2.2.2.1 (0+Int.toNat a132.1.2.2.2.2.2.2.2.2.2.1) fun d133=>
               asSl d133 fun t134 l135=>
               zan (zau [.sl t134 l135,.sl a132.1.2.2.2.2.2.2.2.2.2.2.1.1 a132.1.2.2.2.2.2.2.2.2.2.2.1.2]) fun r136=>
               asB r136 fun b137=>
               brK (!b137)
                (some (.bool false))
                (letN (IntKind.i64.wrap (a132.1.2.2.2.2.2.2.2.2.2.2.2.2.1+1)) fun n138=>
                sif (List.length a132.1.2.2.2.1=List.length a132.1.2.2.2.1) <|
                sif (List.length a132.1.2.2.2.2.2.2.2.1=List.length a132.1.2.2.2.2.2.2.2.1) <|
                again91 ((((a132.1.1.1,a132.1.1.2.1,a132.1.1.2.2.1,unit),(a132.1.2.1.1,a132.1.2.1.2.1,a132.1.2.1.2.2.1,unit),a132.1.2.2.1,a132.1.2.2.2.1,a132.1.2.2.2.2.1,a132.1.2.2.2.2.2.1,a132.1.2.2.2.2.2.2.1,a132.1.2.2.2.2.2.2.2.1,a132.1.2.2.2.2.2.2.2.2.1,a132.1.2.2.2.2.2.2.2.2.2.2.2.1,n138,unit),a132.2.1,a132.2.2.1,unit))))
              (fun j139=>
              sif (l99.length=l99.length) <|
              sif (l103.length=l103.length) <|
              j139 ((((i92,i93,i94,unit),(i95,i96,i97,unit),x98,l99,i100,l101,i102,l103,i104,i106,(Tag.fresh,[.int .u8 0,.int .u8 0,.int .u8 0,.int .u8 0,.int .u8 0,.int .u8 0,.int .u8 0,.int .u8 0,.int .u8 0,.int .u8 0,.int .u8 0,.int .u8 0,.int .u8 0,.int .u8 0,.int .u8 0,.int .u8 0,.int .u8 0,.int .u8 0,.int .u8 0,.int .u8 0,.int .u8 0,.int .u8 0,.int .u8 0,.int .u8 0,.int .u8 0,.int .u8 0,.int .u8 0,.int .u8 0,.int .u8 0,.int .u8 0,.int .u8 0,.int .u8 0]),i105,i106,unit),U107,U108,unit))))))
             (jn (α:=((Int×Int×Int×PUnit)×(Int×Int×Int×PUnit)×D×List D×Int×List (Int×D)×Int×List D×Int×Int×(Tag×List D)×Int×Int×PUnit)×List (List D)×List (List D)×PUnit) (fun a140=>
               sif (0≤a140.1.2.2.2.2.2.2.2.2.2.1) <|
               sif (Int.toNat a140.1.2.2.2.2.2.2.2.2.2.1 < List.length a140.1.2.2.2.2.2.2.2.1) <|
               getK a140.1.2.2.2.2.2.2.2.1 (0+Int.toNat a140.1.2.2.2.2.2.2.2.2.2.1) fun d141=>
               asSl d141 fun t142 l143=>
               zan (zau [.sl t142 l143,.sl a140.1.2.2.2.2.2.2.2.2.2.2.1.1 a140.1.2.2.2.2.2.2.2.2.2.2.1.2]) fun r144=>
               asB r144 fun b145=>
               brK (!b145)
                (some (.bool false))
                (letN (IntKind.i64.wrap (a140.1.2.2.2.2.2.2.2.2.2.2.2.2.1+1)) fun n146=>
                sif (List.length a140.1.2.2.2.1=List.length a140.1.2.2.2.1) <|
                sif (List.length a140.1.2.2.2.2.2.2.2.1=List.length a140.1.2.2.2.2.2.2.2.1) <|
                again91 ((((a140.1.1.1,a140.1.1.2.1,a140.1.1.2.2.1,unit),(a140.1.2.1.1,a140.1.2.1.2.1,a140.1.2.1.2.2.1,unit),a140.1.2.2.1,a140.1.2.2.2.1,a140.1.2.2.2.2.1,a140.1.2.2.2.2.2.1,a140.1.2.2.2.2.2.2.1,a140.1.2.2.2.2.2.2.2.1,a140.1.2.2.2.2.2.2.2.2.1,a140.1.2.2.2.2.2.2.2.2.2.2.2.1,n146,unit),a140.2.1,a140.2.2.1,unit))))
              (fun j147=>
              sif (l99.length=l99.length) <|
              sif (l103.length=l103.length) <|
              j147 ((((i92,i93,i94,unit),(i95,i96,i97,unit),x98,l99,i100,l101,i102,l103,i104,i106,(t110,l111),i105,i106,unit),U107,U108,unit)))))
            (sif (0+l99.length≤l99.length) <|
            sif (0+l103.length≤l103.length) <|
            zan (zb1 [x98,.sl .lent (cut 0 l99.length l99),.agg [.int .i64 i92,.int .i64 i93,.int .i64 i94],.agg [.int .i64 i95,.int .i64 i96,.int .i64 i97],.int .i64 i102,.sl .lent (cut 0 l103.length l103)] [U107,U108]) fun r148=>
            nilK r148.outs <|
            zeE r148.tbs fun c149 q150=>
            zeE q150 fun c151 q152=>
            nilK q152 <|
            asI .i64 r148.r fun i153=>
            brK (i153 != 0)
             (some (.bool false))
             (zan (za7 [x98] [c149,c151]) fun r154=>
             nilK r154.outs <|
             nilK r154.tbs <|
             asI .i64 r154.r fun i155=>
             brK (i155 != 0)
              (some (.bool false))
              (letN (IntKind.i64.wrap (i102+1)) fun n156=>
              sif (l99.length=l99.length) <|
              again64 ((((i92,i93,i94,unit),(i95,i96,i97,unit),x98,l99,i100,l101,n156,unit),c149,c151,unit))))))
           ((((i65,i66,i67,unit),(i68,i69,i70,unit),x71,l72,i73,l74,i75,l83,i88,(↑(l83.length):Int),(0:Int),unit),U76,U77,unit)))))
        (zb3 (α:=((Int×Int×Int×PUnit)×D×Int×List (Int×D)×Int×PUnit)×List (List D)×List (List D)×PUnit) (fun again157 (((i158,(i159,(i160,_))),(x161,(i162,(l163,(i164,_))))),(U165,(U166,_)))=>
         brK (decide (i164 < 16))
          (zan (zaZ [.agg [.int .i64 i158,.int .i64 i159,.int .i64 i160],.int .i64 i164]) fun r167=>
          zbe r167 fun l168=>
          sif (0+l168.length≤l168.length) <|
          sif (l168.length=l168.length) <|
          zb3 (α:=((Int×Int×Int×PUnit)×D×Int×List (Int×D)×Int×List D×List D×Int×Int×PUnit)×List (List D)×List (List D)×PUnit) (fun again169 (((i170,(i171,(i172,_))),(x173,(i174,(l175,(i176,(l177,(l178,(i179,(i180,_))))))))),(U181,(U182,_)))=>
           brK (decide (i180 < i179))
            (sif (0≤i180) <|
            sif (i180.toNat < l178.length) <|
            getK l178 (0+i180.toNat) fun d183=>
            asI .i64 d183 fun i184=>
            asSl (zk4 i184 (.sl .nil []) l175) fun t185 l186=>
            brK (List.isEmpty l186)
             (if t185=Tag.nn then
             (jn (α:=((Int×Int×Int×PUnit)×D×Int×List (Int×D)×Int×List D×(Tag×List D)×List D×Int×Int×PUnit)×List (List D)×List (List D)×PUnit) (fun a188=>
               sif (List.length a188.1.2.2.2.2.2.1+1≤4294967296) <|
               sif (List.length a188.1.2.2.2.2.2.1=List.length a188.1.2.2.2.2.2.1) <|
               letN (IntKind.i64.wrap (a188.1.2.2.2.2.2.2.2.2.2.1+1)) fun n189=>
               sif (List.length a188.1.2.2.2.2.2.1+1=List.length (a188.1.2.2.2.2.2.1++[D.sl a188.1.2.2.2.2.2.2.1.1 a188.1.2.2.2.2.2.2.1.2])) <|
               sif (List.length a188.1.2.2.2.2.2.2.2.1=List.length a188.1.2.2.2.2.2.2.2.1) <|
               again169 ((((a188.1.1.1,a188.1.1.2.1,a188.1.1.2.2.1,unit),a188.1.2.1,a188.1.2.2.1,a188.1.2.2.2.1,a188.1.2.2.2.2.1,a188.1.2.2.2.2.2.1++[.sl a188.1.2.2.2.2.2.2.1.1 a188.1.2.2.2.2.2.2.1.2],a188.1.2.2.2.2.2.2.2.1,a188.1.2.2.2.2.2.2.2.2.1,n189,unit),a188.2.1,a188.2.2.1,unit)))
              (fun j190=>
              sif (l177.length=l177.length) <|
              sif (l178.length=l178.length) <|
              j190 ((((i170,i171,i172,unit),x173,i174,l175,i176,l177,(t185,l186),l178,i179,i180,unit),U181,U182,unit))))
             else
             (if t185=Tag.nul then
             (jn (α:=((Int×Int×Int×PUnit)×D×Int×List (Int×D)×Int×List D×(Tag×List D)×List D×Int×Int×PUnit)×List (List D)×List (List D)×PUnit) (fun a193=>
               sif (List.length a193.1.2.2.2.2.2.1+1≤4294967296) <|
               sif (List.length a193.1.2.2.2.2.2.1=List.length a193.1.2.2.2.2.2.1) <|
               letN (IntKind.i64.wrap (a193.1.2.2.2.2.2.2.2.2.2.1+1)) fun n194=>
               sif (List.length a193.1.2.2.2.2.2.1+1=List.length (a193.1.2.2.2.2.2.1++[D.sl a193.1.2.2.2.2.2.2.1.1 a193.1.2.2.2.2.2.2.1.2])) <|
               sif (List.length a193.1.2.2.2.2.2.2.2.1=List.length a193.1.2.2.2.2.2.2.2.1) <|
               again169 ((((a193.1.1.1,a193.1.1.2.1,a193.1.1.2.2.1,unit),a193.1.2.1,a193.1.2.2.1,a193.1.2.2.2.1,a193.1.2.2.2.2.1,a193.1.2.2.2.2.2.1++[.sl a193.1.2.2.2.2.2.2.1.1 a193.1.2.2.2.2.2.2.1.2],a193.1.2.2.2.2.2.2.2.1,a193.1.2.2.2.2.2.2.2.2.1,n194,unit),a193.2.1,a193.2.2.1,unit)))
              (fun j195=>
              sif (l177.length=l177.length) <|
              sif (l178.length=l178.length) <|
              j195 ((((i170,i171,i172,unit),x173,i174,l175,i176,l177,(Tag.fresh,[.int .u8 0,.int .u8 0,.int .u8 0,.int .u8 0,.int .u8 0,.int .u8 0,.int .u8 0,.int .u8 0,.int .u8 0,.int .u8 0,.int .u8 0,.int .u8 0,.int .u8 0,.int .u8 0,.int .u8 0,.int .u8 0,.int .u8 0,.int .u8 0,.int .u8 0,.int .u8 0,.int .u8 0,.int .u8 0,.int .u8 0,.int .u8 0,.int .u8 0,.int .u8 0,.int .u8 0,.int .u8 0,.int .u8 0,.int .u8 0,.int .u8 0,.int .u8 0]),l178,i179,i180,unit),U181,U182,unit))))
             else
             (sif (t185=Tag.nil) <|
             jn (α:=((Int×Int×Int×PUnit)×D×Int×List (Int×D)×Int×List D×(Tag×List D)×List D×Int×Int×PUnit)×List (List D)×List (List D)×PUnit) (fun a197=>
               sif (List.length a197.1.2.2.2.2.2.1+1≤4294967296) <|
               sif (List.length a197.1.2.2.2.2.2.1=List.length a197.1.2.2.2.2.2.1) <|
               letN (IntKind.i64.wrap (a197.1.2.2.2.2.2.2.2.2.2.1+1)) fun n198=>
               sif (List.length a197.1.2.2.2.2.2.1+1=List.length (a197.1.2.2.2.2.2.1++[D.sl a197.1.2.2.2.2.2.2.1.1 a197.1.2.2.2.2.2.2.1.2])) <|
               sif (List.length a197.1.2.2.2.2.2.2.2.1=List.length a197.1.2.2.2.2.2.2.2.1) <|
               again169 ((((a197.1.1.1,a197.1.1.2.1,a197.1.1.2.2.1,unit),a197.1.2.1,a197.1.2.2.1,a197.1.2.2.2.1,a197.1.2.2.2.2.1,a197.1.2.2.2.2.2.1++[.sl a197.1.2.2.2.2.2.2.1.1 a197.1.2.2.2.2.2.2.1.2],a197.1.2.2.2.2.2.2.2.1,a197.1.2.2.2.2.2.2.2.2.1,n198,unit),a197.2.1,a197.2.2.1,unit)))
              (fun j199=>
              sif (l177.length=l177.length) <|
              sif (l178.length=l178.length) <|
              j199 ((((i170,i171,i172,unit),x173,i174,l175,i176,l177,(Tag.fresh,[.int .u8 0,.int .u8 0,.int .u8 0,.int .u8 0,.int .u8 0,.int .u8 0,.int .u8 0,.int .u8 0,.int .u8 0,.int .u8 0,.int .u8 0,.int .u8 0,.int .u8 0,.int .u8 0,.int .u8 0,.int .u8 0,.int .u8 0,.int .u8 0,.int .u8 0,.int .u8 0,.int .u8 0,.int .u8 0,.int .u8 0,.int .u8 0,.int .u8 0,.int .u8 0,.int .u8 0,.int .u8 0,.int .u8 0,.int .u8 0,.int .u8 0,.int .u8 0]),l178,i179,i180,unit),U181,U182,unit))))))
             (jn (α:=((Int×Int×Int×PUnit)×D×Int×List (Int×D)×Int×List D×(Tag×List D)×List D×Int×Int×PUnit)×List (List D)×List (List D)×PUnit) (fun a200=>
               sif (List.length a200.1.2.2.2.2.2.1+1≤4294967296) <|
               sif (List.length a200.1.2.2.2.2.2.1=List.length a200.1.2.2.2.2.2.1) <|
               letN (IntKind.i64.wrap (a200.1.2.2.2.2.2.2.2.2.2.1+1)) fun n201=>
               sif (List.length a200.1.2.2.2.2.2.1+1=List.length (a200.1.2.2.2.2.2.1++[D.sl a200.1.2.2.2.2.2.2.1.1 a200.1.2.2.2.2.2.2.1.2])) <|
               sif (List.length a200.1.2.2.2.2.2.2.2.1=List.length a200.1.2.2.2.2.2.2.2.1) <|
               again169 ((((a200.1.1.1,a200.1.1.2.1,a200.1.1.2.2.1,unit),a200.1.2.1,a200.1.2.2.1,a200.1.2.2.2.1,a200.1.2.2.2.2.1,a200.1.2.2.2.2.2.1++[.sl a200.1.2.2.2.2.2.2.1.1 a200.1.2.2.2.2.2.2.1.2],a200.1.2.2.2.2.2.2.2.1,a200.1.2.2.2.2.2.2.2.2.1,n201,unit),a200.2.1,a200.2.2.1,unit)))
              (fun j202=>
              sif (l177.length=l177.length) <|
              sif (l178.length=l178.length) <|
              j202 ((((i170,i171,i172,unit),x173,i174,l175,i176,l177,(t185,l186),l178,i179,i180,unit),U181,U182,unit)))))
            (sif (0+l177.length≤l177.length) <|
            zan (zaM [.agg [.int .i64 i170,.int .i64 i171,.int .i64 i172],.int .i64 i176,.sl .lent (cut 0 l177.length l177)]) fun r203=>
            zdP r203 fun ts204=>
            zaz ([Lf.any,Lf.any]) ts204 fun c205=>
            zbe c205.1 fun l206=>
            asB c205.2.1 fun b207=>
            sif (0+l206.length≤l206.length) <|
            sif (l206.length=l206.length) <|
            zb3 (α:=((Int×Int×Int×PUnit)×D×Int×List (Int×D)×Int×List D×Bool×Int×Int×PUnit)×List (List D)×List (List D)×PUnit) (fun again208 (((i209,(i210,(i211,_))),(x212,(i213,(l214,(i215,(l216,(b217,(i218,(i219,_))))))))),(U220,(U221,_)))=>
             brK (decide (i219 < i218))
              (brK (i219 == i213)
               (letN (IntKind.i64.wrap (i219+1)) fun n222=>
               sif (l216.length=l216.length) <|
               again208 ((((i209,i210,i211,unit),x212,i213,l214,i215,l216,b217,i218,n222,unit),U220,U221,unit)))
               (letN (IntKind.i64.wrap (36+i215)) fun n223=>
               zan (zaw [x212,.int .i64 i219,.int .i64 n223] [U220,U221]) fun r224=>
               nilK r224.outs <|
               nilK r224.tbs <|
               zdP r224.r fun ts225=>
               zaz ([Lf.any,Lf.any]) ts225 fun c226=>
               zbe c226.1 fun l227=>
               asI .i64 c226.2.1 fun i228=>
               brK (!b217)
                (some (.bool false))
                (brK (i228 != 0)
                 (some (.bool false))
                 (sif (0≤i219) <|
                 sif (i219.toNat < l216.length) <|
                 getK l216 (0+i219.toNat) fun d229=>
                 asSl d229 fun t230 l231=>
                 sif (0+l227.length≤l227.length) <|
                 zan (zau [.sl .lent (cut 0 l227.length l227),.sl t230 l231]) fun r232=>
                 asB r232 fun b233=>
                 brK (!b233)
                  (some (.bool false))
                  (letN (IntKind.i64.wrap (i219+1)) fun n234=>
                  sif (l216.length=l216.length) <|
                  again208 ((((i209,i210,i211,unit),x212,i213,l214,i215,l216,b217,i218,n234,unit),U220,U221,unit)))))))
              (letN (IntKind.i64.wrap (i215+1)) fun n235=>
              again157 ((((i209,i210,i211,unit),x212,i213,l214,n235,unit),U220,U221,unit))))
             ((((i170,i171,i172,unit),x173,i174,l175,i176,l206,b207,(↑(l206.length):Int),(0:Int),unit),U181,U182,unit))))
           ((((i158,i159,i160,unit),x161,i162,l163,i164,[],l168,(↑(l168.length):Int),(0:Int),unit),U165,U166,unit)))
          (zan (zbx []) fun r236=>
          asB r236 fun b237=>
          some (.bool b237)))
         ((((i68,i69,i70,unit),x71,i73,l74,(0:Int),unit),U76,U77,unit))))
       ((((i21,i22,i23,unit),(i24,i25,i26,unit),x27,l28,i29,l30,(0:Int),unit),U32,U33,unit))))
     (((a18.1.1,(a18.1.2.1.1,a18.1.2.1.2.1,a18.1.2.1.2.2.1,unit),(a18.1.2.2.1.1,a18.1.2.2.1.2.1,a18.1.2.2.1.2.2.1,unit),a18.1.2.2.2.1,a18.1.2.2.2.2.1,a18.1.2.2.2.2.2.1,[],(0:Int),unit),a18.2.1,a18.2.2.1,unit)))
   (fun j238=>
   brK (i17 == 0)
    (letN (IntKind.i64.wrap (Int.tdiv a3 (3:Int))) fun n239=>
    zan (zac [.int .i64 n239,.int .i64 c7.2.1]) fun r240=>
    asI .i64 r240 fun i241=>
    zan (zbs [r8.r,.int .i64 i241] [c9,c11]) fun r242=>
    nilK r242.outs <|
    zeE r242.tbs fun c243 q244=>
    nilK q244 <|
    asI .i64 r242.r fun i245=>
    sif (0≤i241) <|
    sif (i241.toNat < l15.length) <|
    getK l15 (0+i241.toNat) fun d246=>
    sif (D.isAgg d246=false) <|
    sif (l15.length=List.length (List.set l15 (0+i241.toNat) (D.bool false))) <|
    j238 (((a2,(c5.1,c5.2.1,c5.2.2.1,unit),(c7.1,c7.2.1,c7.2.2.1,unit),r8.r,List.set l15 (0+i241.toNat) (.bool false),i241,unit),c9,c243,unit)))
    (sif (l15.length=l15.length) <|
    j238 (((a2,(c5.1,c5.2.1,c5.2.2.1,unit),(c7.1,c7.2.1,c7.2.2.1,unit),r8.r,l15,(-1:Int),unit),c9,c11,unit)))))
theorem ziH (zbN:Zp) (zbd:Zs) (zbP zac:Zp) (zbs:Zs) (zbG zaZ zaD:Zp) (zbh:Zs) (zbr zau:Zp) (zb1 za7:Zs) (zaM:Zp) (zaw:Zs) (zbx:Zp) (tga2:Tag) (a0 a1:Int) (a2:List D) (a3:Int):denT Tryz.prog (zax [(ID.wattleplay_Pair,(.pure [0,0] zbN)),(ID.wattlelaw14_Filled,(.st [] [0] [(2496,true),(8225,true)] zbd)),(ID.wattleplay_Live,(.pure [1] zbP)),(ID.wattlekeep_Within,(.pure [0] zac)),(ID.bench_Bench_Fail,(.st [] [0] [(2496,false),(8225,true)] zbs)),(ID.wattlelaw14_Data,(.pure [1] zbG)),(ID.wattleref01_Numbers,(.pure [1] zaZ)),(ID.wattleref01_Windows,(.pure [0] zaD)),(ID.window_Read,(.st [] [1,0] [(2496,false),(8225,false)] zbh)),(ID.wattleref01_Span,(.pure [0,0] zbr)),(ID.wattlekeep_Same_byte,(.pure [0] zau)),(ID.window_Write,(.st [] [0] [(2496,true),(8225,true)] zb1)),(ID.bench_Bench_Pending,(.st [] [0] [(2496,false),(8225,false)] za7)),(ID.wattleref01_Fill,(.pure [1,0] zaM)),(ID.bench_Bench_Read,(.st [] [1,0] [(2496,false),(8225,false)] zaw)),(ID.wattlelaw20_wakes,(.pure [0] zbx))]) zep [0] ID.wattlelaw20_WindowMoves [.int .i64 a0,.int .i64 a1,.sl tga2 a2,.int .i64 a3]=sif (D.nohL [.int .i64 a0,.int .i64 a1,.sl tga2 a2,.int .i64 a3]=true) (zdy zbN zbd zbP zac zbs zbG zaZ zaD zbh zbr zau zb1 za7 zaM zaw zbx a0 a1 (D.lentL a2) a3):=by kernel_rfl
theorem zha (tga2:Tag) (a0 a1:Int) (a2:List D) (a3:Int):zdx [.int .i64 a0,.int .i64 a1,.sl tga2 a2,.int .i64 a3]=sif (D.nohL [.int .i64 a0,.int .i64 a1,.sl tga2 a2,.int .i64 a3]=true) (zdy zbN zbd zbP zac zbs zbG zaZ zaD zbh zbr zau zb1 za7 zaM zaw zbx a0 a1 (D.lentL a2) a3):=ziH zbN zbd zbP zac zbs zbG zaZ zaD zbh zbr zau zb1 za7 zaM zaw zbx tga2 a0 a1 a2 a3
end Wf

namespace Wf
open Go Go.RowKit Go.Proofs
set_option linter.unusedSimpArgs false
set_option linter.unusedVariables false
set_option maxHeartbeats 4000000
theorem zyd {g:Geo} {r:Int} {data:List (List Int)} (hf:zcv g r=true) (hR:Row g data):zaM [.agg [.int .i64 g.l,.int .i64 g.d,.int .i64 g.c],.int .i64 r,.sl .lent (pL (fP data))]=some (.tup [.sl .own (pL (fP (zcO g r data))),.bool true]):=by
 have hw:=zbL (zbm.1 hf).1;have hl:=hR.len
 have h:=zAt g r .lent (ps:=fP data) (by simp [fP]; omega) (fun x hx=>by
  obtain ⟨y,hy,rfl⟩:=List.mem_map.1 hx;exact hR.sec y hy)
 have hm:(fP data).map (·.2)=data:=by unfold fP; rw [List.map_map]; exact List.map_id _
 rw [hm,zi1 hf hR] at h;exact h
theorem window_moves (a0 a1:Int) (l:List Int) (a3:Int) (tg:Tag):zdx [.int .i64 a0,.int .i64 a1,.sl tg (intL l),.int .i64 a3]=some (.bool true):=by
 rw [zha,zou]
 rw [zaa (by simp [D.nohL,D.noh,zEk])]
 unfold zdy;obtain ⟨x,y,hpair,hcan,hx5,hy8⟩:=zC0 a0 a1;obtain ⟨k1,k2,k3,k4,k5,k6⟩:=zjG.1 hcan;have hxd:=ok_d k1;have hyd:=ok_d k2;have hxl:=zdE.1 k1;have hxw:=zbL k1;have hyw:=zbL k2
 obtain ⟨n,hn⟩:∃ n:Nat,(n:Int)=y.d:=⟨y.d.toNat,by omega⟩
 have hfr:=zBn [] [] k1 (n:=n) (by omega) (by omega) .lent l
 simp only [List.length_nil] at hfr;obtain ⟨U,V,idx,B0,hfil,hB0,hS0,hw0,hc0,_⟩:=hfr;rw [hn] at hfil
 have hlive:=zFd (d:=n) (by omega) (by omega)
 rw [hn] at hlive;obtain ⟨e3,e4,e5⟩:=zxx hcan;have hrw:=(zlh hcan).2
 have h3:=ztb a3 3 (by omega) (by omega)
 have hdg:=ztb (IntKind.i64.wrap (a3.tdiv 3)) y.d (by omega) (by omega)
 have g0:=Int.emod_nonneg (IntKind.i64.wrap (a3.tdiv 3)) (show y.d≠0 by omega)
 have g1:=Int.emod_lt_of_pos (IntKind.i64.wrap (a3.tdiv 3)) (show (0:Int) < y.d by omega)
 have hR:∀ r:Nat,r < 16→Row x (rowL x l r):=fun r _=>zwp k1 l r
 have hww:=zHh;have hwin:zaD [.agg [.int .i64 x.l,.int .i64 x.d,.int .i64 x.c],.agg [.int .i64 y.l,.int .i64 y.d,.int .i64 y.c]]=some (.int .i64 (winP x y)):=zta x y
 have hspan:∀ k,zbr [.agg [.int .i64 x.l,.int .i64 x.d,.int .i64 x.c],.agg [.int .i64 y.l,.int .i64 y.d,.int .i64 y.c],.int .i64 k]=some (.tup [.int .i64 (zbC x y k).1,.int .i64 (zbC x y k).2]):=fun k=>zEO x y k
 have hcut:∀ l:List D,cut 0 l.length l=l:=fun l=>zqk rfl
 have hxD:x.D=.agg [.int .i64 x.l,.int .i64 x.d,.int .i64 x.c]:=rfl;have hyD:y.D=.agg [.int .i64 y.l,.int .i64 y.d,.int .i64 y.c]:=rfl;rw [hxD,hyD] at hpair;rw [hpair,zad,zdX,zgA,zla,zfd,zfd,zfd,zee,zla,zfd,zfd,zfd,zee];dsimp only;rw [hfil,zad];dsimp only
 rw [zci,zex,zex,zci,zaa (by rfl),zCs,zaq,hlive,zad,zbA,h3,zad,za3]
 refine zG8 (fun z=>∃ (gone:Int) (live:List Bool) (B1:Ben),z=((intL l,(x.l,x.d,x.c,PUnit.unit),(y.l,y.d,y.c,PUnit.unit),.h kB 0 0,live.map D.bool,gone,PUnit.unit),P0 U 0 idx B1,P1 V idx B1,PUnit.unit)∧
  Run U V 0 idx B1 n 0∧(∀ e:Int,0≤e→e < n→e≠gone→B1.failed e=false)∧(∀ C:Ben,C.n=n→∀ e:Int,0≤e→C.up live e=true→e < n∧e≠gone)∧
  (∀ C:Ben,C.n=n→∀ e:Int,0≤e→e < n→e≠gone→C.failed e=false→C.up live e=true)∧(∀ e:Int,0≤e→B1.nP e=0)∧(∀ e a:Int,0≤e→e≠gone→B1.cur e a=B0.cur e a)) ?_ ?_
 ·rintro _ ⟨gone,live,B1,rfl,hB1,hfl,hdn,hup,hnp,hcur⟩
  dsimp only;rw [zaa rfl]
  let s1:Nat→(List D×(Int×Int×Int×PUnit)×(Int×Int×Int×PUnit)×D×List D×Int×List (Int×D)×Int×PUnit)×List (List D)×List (List D)×PUnit:=fun r=>
   ((intL l,(x.l,x.d,x.c,PUnit.unit),(y.l,y.d,y.c,PUnit.unit),.h kB 0 0,live.map D.bool,gone,wmap x (rowL x l) r,(r:Int),PUnit.unit),P0 U 0 idx B1,P1 V idx B1,PUnit.unit)
  show zb3 _ (s1 0)=_
  refine zca s1 16 (by omega) ?_ ?_
  ·intro again r hr;dsimp only [s1]
   have hfi:zcv x (r:Int)=true:=zbm.2 ⟨k1,by omega,by omega⟩
   have hdat:=zDw x k1 (r:Int) (by omega) .lent l
   rw [Int.toNat_natCast] at hdat;have hnums:=zx3 x (r:Int)
   have hnd:zoG x (r:Int)=numD x (r:Int) x.width.toNat:=by unfold zoG; rw [if_pos hfi]
   rw [hnd] at hnums;have hnl:(numD x (r:Int) x.width.toNat).length=x.width.toNat:=zfp ..;have hrl:=(hR r hr).len
   have e6:IntKind.i64.wrap ((r:Int)+1)=((r+1:Nat):Int):=by rw [zah (by omega) (by omega)]; omega
   rw [ztv (by omega),hdat,zad,zbA,hnums,zad,zbA,zaa (by omega),zaa rfl,zaa rfl,zaa rfl,hnl]
   let s2:Nat→(List D×(Int×Int×Int×PUnit)×(Int×Int×Int×PUnit)×D×List D×Int×List (Int×D)×Int×List D×List D×Int×Int×PUnit)×List (List D)×List (List D)×PUnit:=fun k=>
    ((intL l,(x.l,x.d,x.c,PUnit.unit),(y.l,y.d,y.c,PUnit.unit),.h kB 0 0,live.map D.bool,gone,wm1 x (rowL x l) r (wmap x (rowL x l) r) k,(r:Int),pL (fP (rowL x l r)),numD x (r:Int) x.width.toNat,(x.width.toNat:Int),(k:Int),PUnit.unit),P0 U 0 idx B1,P1 V idx B1,PUnit.unit)
   show zb3 _ (s2 0)=_
   refine zca s2 x.width.toNat (by omega) ?_ ?_
   ·intro again2 k hk;dsimp only [s2]
    have hgn:(numD x (r:Int) x.width.toNat)[k]? =some (.int .i64 (numP x r k)):=zoH x r x.width.toNat (by omega)
    have hgd:(pL (fP (rowL x l r)))[k]? =some (.sl .fresh (uL ((rowL x l r).getD k []))):=ztg (by omega)
    have e7:IntKind.i64.wrap ((k:Int)+1)=((k+1:Nat):Int):=by rw [zah (by omega) (by omega)]; omega
    rw [ztv (by omega),zaa (by omega),zaa (by rw [hnl]; omega),Nat.zero_add,Int.toNat_natCast,zal hgn,za3,zaa (by omega),zaa (by simp [pL,fP]; omega),zal hgd,zc0,zaF,e7,zaa rfl,zaa rfl,zaa rfl]
    rfl
   ·intro again2;dsimp only [s2]
    rw [zsr (by omega),zaF,e6,zaa rfl]
    rfl
  ·intro again;dsimp only [s1]
   rw [zsr (by omega),zaa rfl]
   have hlook:=fun (i:Int) (i0:0≤i)=>zFo (dat:=rowL x l) k1 i0 (.sl .nil [])
   generalize hMM:wmap x (rowL x l) 16=M at*
   have hM0:MvS U V 0 idx n live x (rowL x l) ((0:Int)*zaS x y) 0 B1:=⟨hB1,fun r r1 r2 e e0 e1 hu=>by
    have:=hc0 e r e0 e1 (by omega) (by omega) (by omega)
    rw [Int.toNat_natCast] at this;rw [hcur e _ e0 (hdn B1 hB1.num e e0 hu).2]
    exact this,by
    have:=zFk (B:=B1) (live:=live) (g:=x) (d:=gone) (by omega) fun e e0 e1 he=>hup B1 hB1.num e e0 (by omega) he (hfl e e0 (by omega) he)
    omega⟩
   have hN0:NewR B1 live x y (rowL x l) ((0:Int)*zaS x y):=fun r hr=>by rw [Int.zero_mul] at hr; omega
   have hmv:=fun (j:Nat) (hj:(j:Int)≤winP x y)=>by
    have:=hM0.mv (to:=y) (by omega) (by omega) hR j (by omega) (by omega)
    rw [Int.zero_add] at this;exact this
   have hsucc:∀ j:Nat,B1.mv live x y (rowL x l) 0 (j+1)=(B1.mv live x y (rowL x l) 0 j).mv1 live x y (rowL x l) j:=fun j=>by
    show (B1.mv live x y (rowL x l) 0 j).mv1 live x y (rowL x l) (0+(j:Int))=_;rw [Int.zero_add]
   generalize hBf:B1.mv live x y (rowL x l) 0=Bf at*
   have hB0f:Bf 0=B1:=by rw [←hBf]; rfl
   let s3:Nat→((Int×Int×Int×PUnit)×(Int×Int×Int×PUnit)×D×List D×Int×List (Int×D)×Int×PUnit)×List (List D)×List (List D)×PUnit:=fun k=>
    (((x.l,x.d,x.c,PUnit.unit),(y.l,y.d,y.c,PUnit.unit),.h kB 0 0,live.map D.bool,gone,M,(k:Int),PUnit.unit),P0 U 0 idx (Bf k),P1 V idx (Bf k),PUnit.unit)
   have hs30:s3 0=(((x.l,x.d,x.c,PUnit.unit),(y.l,y.d,y.c,PUnit.unit),.h kB 0 0,live.map D.bool,gone,M,0,PUnit.unit),P0 U 0 idx B1,P1 V idx B1,PUnit.unit):=by
    simp only [s3]; rw [hB0f]; rfl
   rw [←hs30]
   refine zca s3 (winP x y).toNat (by omega) ?_ ?_
   ·intro again2 j hj;dsimp only [s3]
    have k0:(0:Int)≤(j:Int):=by omega
    have k1':(j:Int) < winP x y:=by omega
    have e6:IntKind.i64.wrap ((j:Int)+1)=((j+1:Nat):Int):=by rw [zah (by omega) (by omega)]; omega
    obtain ⟨hMj,_,_,_⟩:=hmv j (by omega)
    have hrd:=hMj.read (by omega) .lent (to:=y) k0 k1' (Int.le_refl _) hR
    have hWj:=znc k0 k1'
    obtain ⟨hwr,hM',_,_,_⟩:=hMj.write (by omega) .lent .lent (to:=y) k0 k1' (by have:=hWj.rr; have:=hWj.r; omega) hR
    rw [←hsucc j] at hwr
    obtain ⟨hMj1,_,_,hp1⟩:=hmv (j+1) (by omega)
    have hpd:=hMj1.run.pend (by omega) (hp1 hnp)
    generalize hk:(j:Int)=k at*;have hs0:=hWj.s0;have hss:=hWj.ss;have hm:=hWj.m;have hse:=hWj.se;have hyc:y.cap=y.width*16:=rfl
    have hlen:(pL (fP (winL x y (rowL x l) k))).length=((zbC x y k).2 - (zbC x y k).1).toNat:=by simp [winL]
    have hget:∀ i:Nat,i < ((zbC x y k).2 - (zbC x y k).1).toNat→(pL (fP (winL x y (rowL x l) k)))[i]? =some (.sl .fresh (uL (zgH x (rowL x l) ((zbC x y k).1+i)))):=fun i hi=>zcR (zuR (zAx (by omega)))
    rw [hwin,zad,za3,ztv k1',zaa (by omega),hcut,hrd,zad]
    dsimp only;rw [zci,zci,zdX,zgA];dsimp only;rw [zbA,za3,hspan,zad,zdX,zgA];dsimp only;generalize hm':((zbC x y k).2 - (zbC x y k).1).toNat=m at*;generalize hfr:(zbC x y k).1=fr at*;generalize hen:(zbC x y k).2=en at*;generalize hQ:pL (fP (winL x y (rowL x l) k))=Q at*
    rw [za3,za3,zlb rfl,zaa (by omega),zaF,zah (by omega) (by omega),hlen,zlb (by omega),zaa (by omega),zaa rfl,zaa rfl]
    let s4:Nat→((Int×Int×Int×PUnit)×(Int×Int×Int×PUnit)×D×List D×Int×List (Int×D)×Int×List D×Int×Int×Int×PUnit)×List (List D)×List (List D)×PUnit:=fun i=>
     (((x.l,x.d,x.c,PUnit.unit),(y.l,y.d,y.c,PUnit.unit),.h kB 0 0,live.map D.bool,gone,M,k,Q,fr,(m:Int),(i:Int),PUnit.unit),P0 U 0 idx (Bf j),P1 V idx (Bf j),PUnit.unit)
    show zb3 _ (s4 0)=_
    refine zca s4 m (by omega) ?_ ?_
    ·intro again3 i hi;dsimp only [s4]
     have hsec:=zrA hR (n:=fr+(i:Int)) (by omega)
     have hg:=hget i hi
     have hsame:=ztc .fresh .fresh (zgH x (rowL x l) (fr+i)) (zgH x (rowL x l) (fr+i)) (by rw [hsec.len]; decide)
     rw [decide_eq_true rfl] at hsame
     have e7:IntKind.i64.wrap (fr+(i:Int))=fr+i:=zah (by omega) (by omega)
     have e8:IntKind.i64.wrap ((i:Int)+1)=((i+1:Nat):Int):=by rw [zah (by omega) (by omega)]; omega
     have him:(i:Int) < (m:Int):=by omega
     have hlk:=hlook (fr+(i:Int)) (by omega)
     rw [ztv him,zaF,e7,hlk]
     by_cases hin:fr+(i:Int) < x.cap
     ·rw [if_pos hin,zc0,show (uL (zgH x (rowL x l) (fr+i))).isEmpty=false by cases hq:uL (zgH x (rowL x l) (fr+i)) with
       | nil=>have:=congrArg List.length hq; rw [zdz,hsec.len] at this; cases this
       | cons _ _=>rfl,zaq,zEj,zaa rfl,zaa rfl]
      dsimp only
      rw [zaa (by omega),zaa (by rw [hlen]; omega),Nat.zero_add,Int.toNat_natCast,zal hg,zc0,hsame,zad,zch,Bool.not_true,zaq,zaF,e8,zaa rfl,zaa rfl]
     ·have hwz:zgH x (rowL x l) (fr+i)=zez:=by unfold zgH; rw [if_pos (by omega)]
      rw [if_neg hin,zc0,show List.isEmpty ([]:List D)=true from rfl,zaX,if_neg (by decide),if_neg (by decide),zaa rfl,zEj,zaa rfl,zaa rfl,zry]
      dsimp only;rw [hwz] at hg hsame
      rw [zaa (by omega),zaa (by rw [hlen]; omega),Nat.zero_add,Int.toNat_natCast,zal hg,zc0,hsame,zad,zch,Bool.not_true,zaq,zaF,e8,zaa rfl,zaa rfl]
    ·intro again3;dsimp only [s4]
     rw [zsr (by omega),zaa (by omega),zaa (by omega),hcut,hcut,hwr,zad]
     dsimp only;rw [zci,zex,zex,zci,za3,zlb rfl,hpd,zad];dsimp only;rw [zci,zci,za3,zlb rfl,zaF,e6,zaa rfl]
   ·intro again2;dsimp only [s3]
    rw [hwin,zad,za3,zsr (by omega)]
    obtain ⟨hMz,hfz,hNz,_⟩:=hmv (winP x y).toNat (by omega)
    have hNz:=hNz hN0
    rw [show (((winP x y).toNat:Nat):Int)=winP x y by omega,e5] at hNz
    have hBz:=hMz.run;generalize Bf (winP x y).toNat=Bz at*
    let s5:Nat→((Int×Int×Int×PUnit)×D×Int×List (Int×D)×Int×PUnit)×List (List D)×List (List D)×PUnit:=fun r=>
     (((y.l,y.d,y.c,PUnit.unit),.h kB 0 0,gone,M,(r:Int),PUnit.unit),P0 U 0 idx Bz,P1 V idx Bz,PUnit.unit)
    show zb3 _ (s5 0)=_
    refine zca s5 16 (by omega) ?_ ?_
    ·intro again3 r hr;dsimp only [s5]
     have hfi:zcv y (r:Int)=true:=zbm.2 ⟨k2,by omega,by omega⟩
     have hnums:=zx3 y (r:Int)
     have hnd:zoG y (r:Int)=numD y (r:Int) y.width.toNat:=by unfold zoG; rw [if_pos hfi]
     rw [hnd] at hnums;have hnl:(numD y (r:Int) y.width.toNat).length=y.width.toNat:=zfp ..
     have e6:IntKind.i64.wrap ((r:Int)+1)=((r+1:Nat):Int):=by rw [zah (by omega) (by omega)]; omega
     have hrow:=zFp (a:=x) (dat:=rowL x l) k2 hR (r:=(r:Int)) (by omega) (by omega)
     have hfill:=zyd hfi hrow
     have hful:(pL (fP (zcO y r (newW x y (rowL x l) r)))).length=n:=by simp [zcO]; omega
     rw [ztv (by omega),hnums,zad,zbA,zaa (by omega),zaa rfl,hnl]
     let nw:Nat→List (List Int):=fun j=>(List.range j).map fun (j:Nat)=>zgH x (rowL x l) (numP y r j)
     have hnw:nw y.width.toNat=newW x y (rowL x l) r:=rfl
     let s6:Nat→((Int×Int×Int×PUnit)×D×Int×List (Int×D)×Int×List D×List D×Int×Int×PUnit)×List (List D)×List (List D)×PUnit:=fun j=>
      (((y.l,y.d,y.c,PUnit.unit),.h kB 0 0,gone,M,(r:Int),pL (fP (nw j)),numD y (r:Int) y.width.toNat,(y.width.toNat:Int),(j:Int),PUnit.unit),P0 U 0 idx Bz,P1 V idx Bz,PUnit.unit)
     show zb3 _ (s6 0)=_
     refine zca s6 y.width.toNat (by omega) ?_ ?_
     ·intro again4 j hj;dsimp only [s6]
      have hgn:(numD y (r:Int) y.width.toNat)[j]? =some (.int .i64 (numP y r j)):=zoH y r y.width.toNat (by omega)
      have hat:=(zDM (g:=y) (r:=r) (k:=j) (n:=numP y r j) k2 hr (by omega)).1 rfl
      have hsec:=zrA hR (n:=numP y r j) hat.1.1;have hlk:=hlook (numP y r j) hat.1.1
      have e7:IntKind.i64.wrap ((j:Int)+1)=((j+1:Nat):Int):=by rw [zah (by omega) (by omega)]; omega
      have hnx:pL (fP (nw j))++[D.sl .fresh (uL (zgH x (rowL x l) (numP y r j)))]=pL (fP (nw (j+1))):=by
       rw [zwq]; simp only [nw]; rw [List.range_succ,List.map_append]; rfl
      have hnwl:(pL (fP (nw j))).length=j:=by simp [nw]
      have hnwl2:(pL (fP (nw (j+1)))).length=j+1:=by simp [nw]
      rw [ztv (by omega),zaa (by omega),zaa (by rw [hnl]; omega),Nat.zero_add,Int.toNat_natCast,zal hgn,za3,hlk]
      by_cases hin:numP y r j < x.cap
      ·rw [if_pos hin,zc0,show (uL (zgH x (rowL x l) (numP y r j))).isEmpty=false by cases hq:uL (zgH x (rowL x l) (numP y r j)) with
        | nil=>have:=congrArg List.length hq; rw [zdz,hsec.len] at this; cases this
        | cons _ _=>rfl,zaq,zEj,zaa rfl,zaa rfl]
       dsimp only
       rw [hnx,zaa (by omega),zaa rfl,zaF,e7,zaa (by omega),zaa rfl]
      ·have hwz:zgH x (rowL x l) (numP y r j)=zez:=by unfold zgH; rw [if_pos (by omega)]
       rw [if_neg hin,zc0,show List.isEmpty ([]:List D)=true from rfl,zaX,if_neg (by decide),if_neg (by decide),zaa rfl,zEj,zaa rfl,zaa rfl,zry]
       dsimp only;rw [hwz] at hnx
       rw [hnx,zaa (by omega),zaa rfl,zaF,e7,zaa (by omega),zaa rfl]
     ·intro again4;dsimp only [s6]
      rw [zsr (by omega),zaa (by omega),hcut,hnw,hfill,zad,zdX,zgA]
      dsimp only
      rw [zbA,zch,zaa (by omega),zaa rfl,hful]
      let s7:Nat→((Int×Int×Int×PUnit)×D×Int×List (Int×D)×Int×List D×Bool×Int×Int×PUnit)×List (List D)×List (List D)×PUnit:=fun d=>
       (((y.l,y.d,y.c,PUnit.unit),.h kB 0 0,gone,M,(r:Int),pL (fP (zcO y r (newW x y (rowL x l) r))),true,(n:Int),(d:Int),PUnit.unit),P0 U 0 idx Bz,P1 V idx Bz,PUnit.unit)
      show zb3 _ (s7 0)=_
      refine zca s7 n (by omega) ?_ ?_
      ·intro again5 d hd;dsimp only [s7]
       have e8:IntKind.i64.wrap ((d:Int)+1)=((d+1:Nat):Int):=by rw [zah (by omega) (by omega)]; omega
       by_cases hgo:(d:Int)=gone
       ·rw [ztv (by omega),zFz hgo,zaF,e8,zaa rfl]
       ·have hfd:Bz.failed d=false:=(hfz d).trans (hfl d (by omega) (by omega) hgo)
        have hrd:=hBz.bread (by omega) (d:=(d:Int)) (a:=36+(r:Int)) (by omega) (by omega) hfd (by omega) (by omega)
        rw [hNz r (by omega) d (by omega) (by omega) (hup Bz hBz.num d (by omega) (by omega) hgo hfd)] at hrd
        have hgd:(pL (fP (zcO y r (newW x y (rowL x l) r))))[d]? =some (.sl .fresh (uL (atR y r (newW x y (rowL x l) r) d))):=zcR (zuR (zi2 (by omega)))
        have hsc:=zxB hfi hrow (d:=(d:Int)) (by omega) (by omega)
        have hsame:=ztc .lent .fresh (atR y r (newW x y (rowL x l) r) d) (atR y r (newW x y (rowL x l) r) d) (by rw [hsc.len]; decide)
        rw [decide_eq_true rfl] at hsame
        rw [ztv (by omega),zFA hgo,zaF,zah (by omega) (by omega),hrd,zad]
        dsimp only;rw [zci,zci,zdX,zgA];dsimp only
        rw [zbA,za3,Bool.not_true,zaq,zlb rfl,zaa (by omega),zaa (by rw [hful]; omega),Nat.zero_add,Int.toNat_natCast,zal hgd,zc0,zaa (by omega),hcut,hsame,zad,zch,Bool.not_true,zaq,zaF,e8,zaa rfl]
      ·intro again5;dsimp only [s7]
       rw [zsr (by omega),zaF,e6]
    ·intro again3;dsimp only [s5]
     rw [zsr (by omega),hww,zad,zch]
 ·intro jj hjj
  have hlv:∀ (C:Ben),C.n=n→∀ e:Int,0≤e→C.up (List.replicate n true) e=(decide (e < n) && !C.failed e):=fun C hC e e0=>zFO hC e0
  by_cases h0:a3 % 3=0
  ·generalize hgg:(IntKind.i64.wrap (a3.tdiv 3)) % y.d=g at*
   obtain ⟨B1,q1,q2,q3,q4,q5,q6⟩:=hB0.fail (d:=g) (by omega) (by omega)
   have hgl:=zDJ (ks:=List.replicate n true) (k:=g.toNat) (by simp; omega)
   rw [zFz h0,zaF,hdg,zad,za3,q1,zad];dsimp only
   rw [zci,zex,zci,za3,zaa (by omega),zaa (by simp; omega),Nat.zero_add,zal hgl,zaa (by rfl),zaa (by simp),zDK]
   refine hjj _ ⟨g,(List.replicate n true).set g.toNat false,B1,by rw [q2],q3,fun e e0 e1 he=>?_,fun C hC e e0 hu=>?_,fun C hC e e0 e1 he hf=>?_,fun e e0=>?_,fun e a e0 he=>q6 e a e0 he⟩
   ·rw [q4 e e0 e1,hS0.failed e]; simp [he]
   ·rw [zFP hC (by omega) e0] at hu
    simp at hu;exact hu.1
   ·rw [zFP hC (by omega) e0,hf]; simp [e1,he]
   ·rw [q5];unfold Ben.nP Ben.fail
    rw [if_pos (hB0.is (by omega) (by omega)),zhw (hB0.is (by omega) (by omega)) e0]
    split
    ·rfl
    ·exact zAw hS0 e
  ·rw [zFA h0,zaa rfl]
   refine hjj _ ⟨-1,List.replicate n true,B0,rfl,hB0,fun e _ _ _=>hS0.failed e,fun C hC e e0 hu=>?_,fun C hC e e0 e1 he hf=>?_,fun e _=>zAw hS0 e,fun _ _ _ _=>rfl⟩
   ·rw [hlv C hC e e0] at hu;simp at hu
    exact ⟨hu.1,by omega⟩
   ·rw [hlv C hC e e0,hf]; simp [e1]
end Wf

