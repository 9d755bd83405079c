/- A part of the proof: lemmas that the law's row leans on. -/
import Derived.Test.YtlbdpbbpoghncaaGreatPe
import Derived.Test.YtlbdpbbpoghncaaGreatPd
set_option linter.all false
namespace Wf
open Go Go.RowKit Go.Proofs
set_option linter.unusedSimpArgs false
set_option linter.unusedVariables false
theorem zDN (l:List Int):(intL l).all D.free=true:=by simp [intL,D.free]
theorem zDO (l:List Int) (n:Int):intL l++[.int .i64 n]=intL (l++[n]):=by simp [intL]
def zzH (ls:List (List Int)) (k:Nat):List Int:=((List.range k).filter fun i=>(ls.getD i []).isEmpty).map Int.ofNat
def miss (ls:List (List Int)):List Int:=zzH ls ls.length
theorem zBE (ls:List (List Int)) (k:Nat):zzH ls (k+1)=zzH ls k++if (ls.getD k []).isEmpty then [(k:Int)] else []:=by
 unfold zzH;rw [List.range_succ,List.filter_append,List.map_append];congr 1
 by_cases h:(ls.getD k []).isEmpty=true
 ·rw [if_pos h,List.filter_cons_of_pos (p:=fun i=>(ls.getD i []).isEmpty) h]; rfl
 ·rw [if_neg h,List.filter_cons_of_neg (p:=fun i=>(ls.getD i []).isEmpty) h]; rfl
theorem zDP (ls:List (List Int)) (k:Nat):(zzH ls k).length≤k:=by
 unfold zzH;rw [List.length_map]
 exact Nat.le_trans (List.length_filter_le _ _) (by simp)
theorem zo4 (tg:Tag) (ps:List Part) (hn:ps.length < 100000):zbL [.sl tg (pL ps)]=some (.sl .own (intL (miss (ps.map (·.2))))):=by
 rw [zoG,zdb]
 have hm:(ps.map fun x=>(zbT x.1 x.2,x.2)).map (·.2)=ps.map (·.2):=by rw [List.map_map]; rfl
 have hlen:(ps.map fun x=>(zbT x.1 x.2,x.2)).length=ps.length:=by simp
 rw [←hm];rw [←hlen] at hn
 generalize (ps.map fun x=>(zbT x.1 x.2,x.2))=rs at*
 unfold zhI
 let st:Nat→(List D×List D×Int×Int×PUnit)×PUnit:=fun k=>((intL (zzH (rs.map (·.2)) k),pL rs,((pL rs).length:Int),(k:Int),PUnit.unit),PUnit.unit)
 have hst:st 0=(([],pL rs,((pL rs).length:Int),0,PUnit.unit),PUnit.unit):=rfl;rw [←hst]
 refine zcj st rs.length (by omega) ?_ ?_
 ·intro again k hk;dsimp only [st];obtain ⟨x,hx⟩:∃ x,rs[k]? =some x:=⟨_,List.getElem?_eq_getElem hk⟩
  have hd:decide ((k:Int) < ((pL rs).length:Int))=true:=by simp; omega
  have hk2:=zDP (rs.map (·.2)) k
  have hgd:(rs.map (·.2)).getD k []=x.2:=by simp [List.getD_eq_getElem?_getD,hx]
  rw [hd,zaI,zaa (by omega),zap (by simpa using zc7 hx),zdi,zBE,hgd]
  by_cases he:x.2=[]
  ·have hb:(((uL x.2).length:Int) == 0)=true:=by simp [he]
   rw [hb,zaI,zaa (by rw [zc8]; omega),zaa (by rfl),zam,zav (by omega) (by omega),zaa (by simp),zDO,he]
   rfl
  ·have hb:(((uL x.2).length:Int) == 0)=false:=by simp; omega
   have hb2:x.2.isEmpty=false:=by simp [he]
   rw [hb,zas,zam,zav (by omega) (by omega),zaa (by rfl),hb2]
   simp
 ·intro again;dsimp only [st]
  have hd:decide ((rs.length:Int) < ((pL rs).length:Int))=false:=by simp
  rw [hd,zas,zaa (by rfl),zaa (zDN _)]
  simp [miss]
theorem zJG (t:Tag) (l:List Int) (n:Int):zaM [.sl t (uL l),.at_ (.int .i64 n)]=some (.bool (!fitS n l)):=by
 rw [zpH,zcN];unfold zit fitS
 cases l with
 | nil=>simp
 | cons a l=>
  have hd:decide (((uL (a::l)).length:Int) > 0)=true:=by simp
  rw [hd,zaI];simp [bne];rfl
theorem ztK (tg:Tag) (ps:List Part) (hn:ps.length < 100000) (n:Int):
  ∃ r,zaj [.sl tg (pL ps),.fn ID.erase_fits_1 [] [.at_ (.int .i64 n)]]=some r∧∃ i:Int,r=.int .i64 i∧decide (i≥0)= !(ps.all fun x=>fitS n x.2):=by
 rw [zeZ,zdb]
 have hm:(ps.all fun x=>fitS n x.2)=((ps.map fun x=>(zbT x.1 x.2,x.2)).all fun x=>fitS n x.2):=by rw [List.all_map]; rfl
 have hlen:(ps.map fun x=>(zbT x.1 x.2,x.2)).length=ps.length:=by simp
 rw [hm];rw [←hlen] at hn
 generalize (ps.map fun x=>(zbT x.1 x.2,x.2))=rs at*
 unfold zcu
 refine zvF (fun a=>(rs.length:Nat) - a.1.2.2.2.1.toNat) (fun r=>∃ i:Int,r=D.int .i64 i∧decide (i≥0)= !(rs.all fun x=>fitS n x.2))
  (fun a=>∃ k:Nat,k≤rs.length∧((rs.take k).all fun x=>fitS n x.2)=true∧a=((pL rs,n,(rs.length:Int),(k:Int),PUnit.unit),PUnit.unit)) ?_ ⟨0,by omega,by simp,by rw [zeA]; rfl⟩ (by simp; omega)
 rintro again _ ⟨k,hk,he,rfl⟩ hag
 dsimp only
 by_cases hkm:k < rs.length
 ·obtain ⟨x,hx⟩:∃ x,rs[k]? =some x:=⟨_,List.getElem?_eq_getElem hkm⟩
  have hd:decide ((k:Int) < (rs.length:Int))=true:=by simp; omega
  rw [hd,zaI,zaa (by omega),zap (by simpa using zc7 hx),zdi,zJG,zab,zbo]
  cases hf:fitS n x.2
  ·refine ⟨_,rfl,_,rfl,?_⟩
   have:(rs.all fun x=>fitS n x.2)=false:=by
    rw [List.all_eq_false]
    exact ⟨x,List.mem_of_getElem? hx,by simp [hf]⟩
   rw [this];simp
  ·simp only [Bool.not_true,zas,zam]
   rw [zav (by omega) (by omega)]
   refine hag _ ⟨k+1,by omega,?_,rfl⟩ (by simp; omega)
   rw [List.take_add_one,hx,List.all_append,he];simp [hf]
 ·have hd:decide ((k:Int) < (rs.length:Int))=false:=by simp; omega
  rw [hd,zas];refine ⟨_,rfl,_,rfl,?_⟩
  rw [List.take_of_length_le (by omega)] at he
  rw [he];rfl
theorem erase_fits (tg:Tag) (ps:List Part) (hn:ps.length < 100000) (n:Int):zci [.int .i64 n,.sl tg (pL ps)]=some (.bool (ps.all fun x=>fitS n x.2)):=by
 rw [zsr,zdb]
 have hm:(ps.all fun x=>fitS n x.2)=((ps.map fun x=>(zbT x.1 x.2,x.2)).all fun x=>fitS n x.2):=by rw [List.all_map]; rfl
 have hlen:(ps.map fun x=>(zbT x.1 x.2,x.2)).length=ps.length:=by simp
 rw [hm];rw [←hlen] at hn
 generalize (ps.map fun x=>(zbT x.1 x.2,x.2))=rs at*
 unfold zls
 have:zaf [.sl .lent (pL rs),.fn ID.erase_fits_1 [] [.at_ (.int .i64 n)]]=some (.bool (!(rs.all fun x=>fitS n x.2))):=by
  rw [zen,zdb]
  have hm:(rs.all fun x=>fitS n x.2)=((rs.map fun x=>(zbT x.1 x.2,x.2)).all fun x=>fitS n x.2):=by rw [List.all_map]; rfl
  have hlen:(rs.map fun x=>(zbT x.1 x.2,x.2)).length=rs.length:=by simp
  rw [hm];rw [←hlen] at hn
  generalize (rs.map fun x=>(zbT x.1 x.2,x.2))=qs at*
  unfold zcg;obtain ⟨r,h1,i,rfl,h2⟩:=ztK .lent qs hn n;rw [h1,zab,zaR,h2]
 rw [this,zab,zbo,Bool.not_not]
theorem zHv {l:List D} {n:Nat} (h:l.length=n):cut 0 n l=l:=by subst h; exact zb5 l
theorem erase_filled (n:Nat) (hn0:n < 100000) (tg:Tag) (ps:List Part) (hn:ps.length < 100000):zbY [.int .i64 n,.sl tg (pL ps)]=some (.sl .own (pL (ps.map fun x=>(Tag.fresh,zkk n x.2)))):=by
 rw [zpJ,zdb]
 have hm:(ps.map fun x=>(Tag.fresh,zkk n x.2))=((ps.map fun x=>(zbT x.1 x.2,x.2)).map fun x=>(Tag.fresh,zkk n x.2)):=by rw [List.map_map]; rfl
 have hlen:(ps.map fun x=>(zbT x.1 x.2,x.2)).length=ps.length:=by simp
 rw [hm];rw [←hlen] at hn
 generalize (ps.map fun x=>(zbT x.1 x.2,x.2))=rs at*
 unfold ziu
 let st:Nat→(Int×List D×List D×Int×Int×PUnit)×PUnit:=fun k=>(((n:Int),pL ((rs.take k).map fun x=>(Tag.fresh,zkk n x.2)),pL rs,((pL rs).length:Int),(k:Int),PUnit.unit),PUnit.unit)
 have hst:st 0=(((n:Int),[],pL rs,((pL rs).length:Int),0,PUnit.unit),PUnit.unit):=rfl;rw [←hst]
 refine zcj st rs.length (by omega) ?_ ?_
 ·intro again k hk;dsimp only [st];obtain ⟨x,hx⟩:∃ x,rs[k]? =some x:=⟨_,List.getElem?_eq_getElem hk⟩
  have hd:decide ((k:Int) < ((pL rs).length:Int))=true:=by simp; omega
  have hfill:([]++List.take (Int.toNat (n:Int)) (uL x.2)++List.drop ((0:Nat)+List.length (List.take (Int.toNat (n:Int)) (uL x.2))) (List.replicate (Int.toNat (n:Int)) (D.int IntKind.u8 (0:Int))))=uL (zkk n x.2):=by
   rw [Int.toNat_natCast,zr2,zut,zzg,Nat.zero_add,zcC,List.nil_append,←zDa]; rfl
  rw [hd,zaI,zaa (by omega),zap (by simpa using zc7 hx),zdi,zaa (by omega),zaa (by rfl),zaa (by omega),zaa (by omega),zaa (by simp),zaa (zAt _),hfill,zaa (by simp [ziY]),zaa (by simp; omega),zaa (by rfl),
   zam,zav (by omega) (by omega),zaa (by simp),zHv (by simp [ziY]),zDK]
  have:(rs.take (k+1)).map (fun x=>(Tag.fresh,zkk n x.2))=(rs.take k).map (fun x=>(Tag.fresh,zkk n x.2))++[(Tag.fresh,zkk n x.2)]:=by rw [List.take_add_one,hx]; simp
  rw [this];rfl
 ·intro again;dsimp only [st]
  have hd:decide ((rs.length:Int) < ((pL rs).length:Int))=false:=by simp
  rw [hd,zas,zaa (by rfl),List.take_length,zaa (zlH (by intro x hx; obtain ⟨y,hy,rfl⟩:=List.mem_map.1 hx; rfl))]
def fP (ls:List (List Int)):List Part:=ls.map fun l=>(Tag.fresh,l)
@[simp] theorem zij (ls:List (List Int)):(fP ls).length=ls.length:=by simp [fP]
theorem zuN (ls:List (List Int)):(fP ls).map (·.2)=ls:=by
 unfold fP;rw [List.map_map];exact List.map_id ls
theorem zgn (ls:List (List Int)):(pL (fP ls)).all D.free=true:=zlH (by intro x hx; obtain ⟨y,_,rfl⟩:=List.mem_map.1 hx; rfl)
theorem zIT (ls:List (List Int)) (i:Nat) (l:List Int):(fP ls).set i (Tag.fresh,l)=fP (ls.set i l):=by simp [fP,List.map_set]
theorem zAG {ls:List (List Int)} {k:Nat} {l:List Int} (h:ls[k]? =some l):(fP ls)[k]? =some (Tag.fresh,l):=by simp [fP,h]
theorem zFs (ps:List Part):(ps.map fun x=>(Tag.fresh,zkk 32 x.2))=fP (zcH (ps.map (·.2))):=by simp [fP,zcH]
theorem zFt (ls:List (List Int)):miss ls=(zdL ls).map Int.ofNat:=rfl
theorem zBF (k:Nat) (hk:k < 100000):zaZ [.int .i64 k]=some (.int .u8 (pow8 (k % 255))):=by
 have h:=zyo (k % 255) (Nat.mod_lt _ (by omega))
 rw [zsu] at h ⊢;unfold zra at h ⊢
 have e1:Int.tmod (k:Int) 255=((k % 255:Nat):Int):=by rw [Int.tmod_eq_emod_of_nonneg (by omega)]; omega
 have e2:Int.tmod ((k % 255:Nat):Int) 255=((k % 255:Nat):Int):=by rw [Int.tmod_eq_emod_of_nonneg (by omega)]; omega
 rw [e1];rw [e2] at h;exact h
theorem zIU {a:Nat} (ha:a < 256):zfa [.int .u8 a]=some (.int .i64 (if logN a=255 then -1 else (logN a:Int))):=by
 rw [zzt];unfold zwd
 refine zgb (a:=(((a:Int),(1:Int),(0:Int),PUnit.unit),PUnit.unit)) (fun x=>(255 - x.1.2.2.1).toNat) (fun x=>some (D.int .i64 (if logF a (255 - x.1.2.2.1.toNat) x.1.2.1.toNat x.1.2.2.1.toNat=255 then -1 else (logF a (255 - x.1.2.2.1.toNat) x.1.2.1.toNat x.1.2.2.1.toNat:Int))))
  (fun x=>∃ n y:Nat,n≤255∧y < 256∧x=(((a:Int),(y:Int),(n:Int),PUnit.unit),PUnit.unit)) ?_ ⟨0,1,by omega,by omega,rfl⟩ (by simp)
 rintro again _ ⟨n,y,hn,hy,rfl⟩ hag
 dsimp only;rw [Int.toNat_natCast,Int.toNat_natCast]
 by_cases h:n < 255
 ·have e:255 - n=(255 - (n+1))+1:=by omega
  have hd:decide ((n:Int) < 255)=true:=by simp; omega
  rw [hd,zaI,e]
  by_cases hya:y=a
  ·subst hya
   have:logF y (255 - (n+1)+1) y n=n:=by unfold logF; rw [if_pos rfl]
   rw [this,if_neg (by omega)]
   simp
  ·have hb:((y:Int) == (a:Int))=false:=by simp; omega
   have:logF a (255 - (n+1)+1) y n=logF a (255 - (n+1)) (dblN y) (n+1):=by rw [logF,if_neg hya]
   have hh:=hag (((a:Int),((dblN y:Nat):Int),((n+1:Nat):Int),PUnit.unit),PUnit.unit) ⟨n+1,dblN y,by omega,zkW hy,rfl⟩ (by dsimp only; omega)
   dsimp only at hh;rw [Int.toNat_natCast,Int.toNat_natCast] at hh
   rw [hb,zas,gf_double,zab,zaR,zam,zav (by omega) (by omega),zza hy,this]
   exact hh
 ·have:n=255:=by omega
  subst this;simp [logF]
theorem zGj {a:Int} (ha:Byt a):zcW [.int .u8 a]=some (.int .u8 (inv8 a)):=by
 obtain ⟨m,hm,rfl⟩:=zfe ha;rw [zzu];unfold zwe inv8 invN;rw [Int.toNat_natCast]
 by_cases h0:m=0
 ·subst h0; simp
 ·obtain ⟨h1,h2⟩:=zHc m hm h0
  have hb:((m:Int) == 0)=false:=by simp; omega
  rw [hb,zas,zIU hm,zab,zaR,if_neg (by omega),if_neg h0,zam,zav (by omega) (by omega),show (255:Int) - (logN m:Int)=((255 - logN m:Nat):Int) by omega,zBF _ (by omega),zab,zaR,zlY]
section
variable {ps:List Part} (h1:0 < ps.length) (h8:ps.length≤8) (hs:∀ x∈ps,x.2.length=32)
include h1 h8 hs
theorem by_q (tq tg:Tag) {q:List Int} (hq:q.length=32) {k:Nat} (hk:k < 8):
  zcJ [.sl tq (uL q),.sl tg (pL ps),.int .i64 k]=some (.sl .own (uL (byQ q (ps.map (·.2)) k))):=by
 rw [ztu,zcN,zdb]
 have hm:(ps.map fun x=>(zbT x.1 x.2,x.2)).map (·.2)=ps.map (·.2):=by rw [List.map_map]; rfl
 have hlen:(ps.map fun x=>(zbT x.1 x.2,x.2)).length=ps.length:=by simp
 have hs':∀ x∈(ps.map fun x=>(zbT x.1 x.2,x.2)),x.2.length=32:=by intro x hx; obtain ⟨y,hy,rfl⟩:=List.mem_map.1 hx; exact hs y hy
 rw [←hm];rw [←hlen] at h1 h8
 generalize (ps.map fun x=>(zbT x.1 x.2,x.2))=rs at*
 unfold znt
 have hQ:=zDM (n:=32) .lent (ps:=rs) (by omega) h1 (by omega) hs'
 have hr:Byt (inv8 (pow8 k)):=zAs _
 have ha:(addL q (sumQ 32 (rs.map (·.2)))).length < 100000:=by unfold addL; split<;>simp<;>omega
 simp (disch:=first | omega | assumption | (simp; done) | fail) [-List.all_eq_true,hQ,zii _ _ _ _ (show q.length < 100000 by omega),zyo k (by omega),zGj (zAq k),zjm _ _ ha hr.1 hr.2]
 rfl
theorem zIV (tp tq tg:Tag) {p q:List Int} (hp:p.length=32) (hq:q.length=32) {j k:Nat} (hj:j < 8) (hk:k < 8):
  zc4 [.sl tp (uL p),.sl tq (uL q),.sl tg (pL ps),.int .i64 j,.int .i64 k]=some (.tup [.sl .own (uL (twoX p q (ps.map (·.2)) j k)),.sl .own (uL (twoY p q (ps.map (·.2)) j k))]):=by
 rw [zts,zcN,zcN,zdb]
 have hm:(ps.map fun x=>(zbT x.1 x.2,x.2)).map (·.2)=ps.map (·.2):=by rw [List.map_map]; rfl
 have hlen:(ps.map fun x=>(zbT x.1 x.2,x.2)).length=ps.length:=by simp
 have hs':∀ x∈(ps.map fun x=>(zbT x.1 x.2,x.2)),x.2.length=32:=by intro x hx; obtain ⟨y,hy,rfl⟩:=List.mem_map.1 hx; exact hs y hy
 rw [←hm];rw [←hlen] at h1 h8
 generalize (ps.map fun x=>(zbT x.1 x.2,x.2))=rs at*
 unfold zns
 have hQ:=zDM (n:=32) .lent (ps:=rs) (by omega) h1 (by omega) hs'
 have hP:=zDL (n:=32) .lent (ps:=rs) (by omega) h1 (by omega) hs'
 have hr:Byt (inv8 (xor8 (pow8 j) (pow8 k))):=zAs _
 have addl:∀ {a b:List Int},a.length≤32→(addL a b).length≤32:=by intro a b h; unfold addL; split<;>simp<;>omega
 have h2:(addL p (sumP 32 (rs.map (·.2)))).length≤32:=addl (by omega)
 have h3:(addL q (sumQ 32 (rs.map (·.2)))).length≤32:=addl (by omega)
 have h4:(addL (addL q (sumQ 32 (rs.map (·.2)))) ((addL p (sumP 32 (rs.map (·.2)))).map (mul8 · (pow8 k)))).length≤32:=addl h3
 simp (disch:=first | omega | assumption | (simp; done) | fail) [-List.all_eq_true,hQ,hP,zii _ _ _ _ (show q.length < 100000 by omega),zii _ _ _ _ (show p.length < 100000 by omega),zyo j (by omega),zyo k (by omega),zGj (zod _ _),
  zjm _ _ (show (addL p (sumP 32 (rs.map (·.2)))).length < 100000 by omega) (ziW k).1 (ziW k).2,zii _ _ _ _ (show (addL q (sumQ 32 (rs.map (·.2)))).length < 100000 by omega),zii _ _ _ _ (show (addL p (sumP 32 (rs.map (·.2)))).length < 100000 by omega),
  zjm _ _ (show (addL (addL q (sumQ 32 (rs.map (·.2)))) ((addL p (sumP 32 (rs.map (·.2)))).map (mul8 · (pow8 k)))).length < 100000 by omega) hr.1 hr.2]
 exact ⟨rfl,rfl⟩
end
end Wf

namespace Wf
open Go Go.RowKit Go.Proofs
set_option linter.unusedSimpArgs false
set_option linter.unusedVariables false
set_option maxHeartbeats 4000000
def solD:Option (List (List Int))→D
 | none=>.tup [.sl .own [],.bool false]
 | some o=>.tup [.sl .own (pL (fP o)),.bool true]
theorem pLs (ls:List (List Int)) (i:Nat) (l:List Int):(pL (fP ls)).set i (.sl .fresh (uL l))=pL (fP (ls.set i l)):=by rw [zo3,zIT]
theorem zsR {ls:List (List Int)} {i:Nat} (h:i < ls.length):(pL (fP ls))[i]? =some (.sl .fresh (uL (ls.getD i []))):=by
 have e:ls[i]? =some (ls.getD i []):=by rw [List.getD_eq_getElem?_getD,List.getElem?_eq_getElem h]; rfl
 exact zc7 (zAG e)
theorem zFu (tp tq tg:Tag) (p q:List Int) {ps:List Part} (hn:ps.length < 100000):
  zcb [.int .i64 32,.sl tp (uL p),.sl tq (uL q),.sl tg (pL ps)]=some (solD (zk0 p q (ps.map (·.2)))):=by
 rw [zqQ,zcN,zcN,zdb]
 have hm:(ps.map fun x=>(zbT x.1 x.2,x.2)).map (·.2)=ps.map (·.2):=by rw [List.map_map]; rfl
 have hlen:(ps.map fun x=>(zbT x.1 x.2,x.2)).length=ps.length:=by simp
 rw [←hm];rw [←hlen] at hn
 generalize (ps.map fun x=>(zbT x.1 x.2,x.2))=rs at*
 clear hm hlen ps;unfold zjX zk0;have hmi:=zo4 .lent rs hn;rw [zFt] at hmi
 have hpq:zbL [.sl .full [.sl .lent (uL p),.sl .lent (uL q)]]=some (.sl .own (intL ((zdL [p,q]).map Int.ofNat))):=zo4 .full [(Tag.lent,p),(Tag.lent,q)] (by simp)
 have hfi:=erase_fits .lent rs hn 32
 have hfa:(rs.all fun x=>fitS 32 x.2)=(rs.map (·.2)).all (fitS 32):=by rw [List.all_map]; rfl
 rw [hfa] at hfi
 have hfpq:zci [.int .i64 32,.sl .full [.sl .lent (uL p),.sl .lent (uL q)]]=some (.bool ([p,q].all (fitS 32))):=erase_fits .full [(Tag.lent,p),(Tag.lent,q)] (by simp) 32
 have hfl:zbY [.int .i64 32,.sl .lent (pL rs)]=some (.sl .own (pL (fP (zcH (rs.map (·.2)))))):=by
  have:=erase_filled 32 (by omega) .lent rs hn
  rw [zFs] at this;exact this
 have hl:(rs.map (·.2)).length=rs.length:=by simp
 generalize hls:rs.map (·.2)=ls at*
 have hfill:(zcH ls).length=rs.length:=by rw [zdj,hl]
 by_cases c1:rs.length < 1
 ·rw [if_pos (.inl (by omega))]
  simp (disch:=first | omega | assumption | (simp; done) | fail) [-List.all_eq_true,hmi,c1,solD]
 by_cases c2:8 < rs.length
 ·rw [if_pos (.inr (.inl (by omega)))]
  simp (disch:=first | omega | assumption | (simp; done) | fail) [-List.all_eq_true,hmi,c1,c2,solD]
 cases c3:ls.all (fitS 32)
 ·rw [if_pos (.inr (.inr (.inl rfl)))]
  simp (disch:=first | omega | assumption | (simp; done) | fail) [-List.all_eq_true,hmi,c1,c2,hfi,c3,solD]
 cases c4:[p,q].all (fitS 32)
 ·rw [if_pos (.inr (.inr (.inr rfl)))]
  simp (disch:=first | omega | assumption | (simp; done) | fail) [-List.all_eq_true,-List.all_cons,hmi,c1,c2,hfi,c3,hfpq,c4,solD]
 rw [if_neg (by rintro (e | e | e | e)<;>first | omega | cases e)]
 have hml:(zdL ls).length≤8:=by
  have:(zdL ls).length≤ls.length:=by unfold zdL; exact Nat.le_trans (List.length_filter_le _ _) (by simp)
  omega
 have hml2:=zvO p q
 have hml3:(zdL [p,q]).length≤2:=by rw [hml2]; split<;>split<;>omega
 by_cases c5:2 < (zdL ls).length+(zdL [p,q]).length
 ·rw [if_pos c5]
  simp (disch:=first | omega | assumption | (simp; done) | fail) [-List.all_eq_true,-List.all_cons,hmi,c1,c2,hfi,c3,hfpq,c4,hpq,zc8,zav,solD]
 rw [if_neg c5];rcases hmm:zdL ls with _ | ⟨j,_ | ⟨k,_ | ⟨m,t⟩⟩⟩
 ·rw [hmm] at c5 hmi
  simp (disch:=first | omega | assumption | (simp; done) | fail) [-List.all_eq_true,-List.all_cons,hmi,c1,c2,hfi,c3,hfpq,c4,hpq,zc8,zav,solD,hfl,zgn]
 ·have hj:=zeL.1 (show j∈zdL ls by rw [hmm]; simp)
  rw [hmm] at c5 hmi;have hi1:intL [(j:Int)]=[.int .i64 j]:=rfl
  have c6:¬ 2 < 1+((zdL [p,q]).length:Int):=by simp at c5; omega
  have hg:=zsR (ls:=zcH ls) (i:=j) (by omega)
  dsimp only
  by_cases hp:0 < p.length
  ·rw [if_pos hp]
   have hP:=zDL (n:=32) .lent (ps:=fP (zcH ls)) (by omega) (by simp; omega) (by simp; omega) (by intro x hx; obtain ⟨l,hl,rfl⟩:=List.mem_map.1 hx; unfold zcH at hl; obtain ⟨y,_,rfl⟩:=List.mem_map.1 hl; exact ziY 32 y)
   rw [zuN] at hP
   have hpl:p.length=32:=by
    simp [fitS] at c4;rcases c4.1 with e | e
    ·rw [e] at hp; cases hp
    ·omega
   simp (disch:=first | omega | assumption | (simp; done) | fail) [-List.all_eq_true,-List.all_cons,hmi,c1,c2,hfi,c3,hfpq,c4,hpq,zc8,hi1,zav,solD,hfl,hP,hp,zii,zap hg,pLs,zgn,hfill,c6,D.isAgg]
  ·rw [if_neg hp]
   have hq:q.length=32:=by
    have hp0:p=[]:=by cases p; rfl; simp at hp
    have hq0:¬ q=[]:=by intro e; rw [hml2,if_pos hp0,if_pos e] at c5; simp at c5
    simp [fitS] at c4;rcases c4.2 with e | e
    ·exact absurd e hq0
    ·omega
   have hQ:=by_q (ps:=fP (zcH ls)) (by simp; omega) (by simp; omega) (by intro x hx; obtain ⟨l,hl,rfl⟩:=List.mem_map.1 hx; unfold zcH at hl; obtain ⟨y,_,rfl⟩:=List.mem_map.1 hl; exact ziY 32 y) .lent .lent hq (k:=j) (by omega)
   rw [zuN] at hQ
   simp (disch:=first | omega | assumption | (simp; done) | fail) [-List.all_eq_true,-List.all_cons,hmi,c1,c2,hfi,c3,hfpq,c4,hpq,zc8,hi1,zav,solD,hfl,hQ,hp,zap hg,pLs,zgn,hfill,c6,D.isAgg]
 ·have hj:=zeL.1 (show j∈zdL ls by rw [hmm]; simp)
  have hk:=zeL.1 (show k∈zdL ls by rw [hmm]; simp)
  have hjk:j < k:=by have:=zm4 ls; rw [hmm] at this; simpa using this
  rw [hmm] at c5 hmi;have hi1:intL [(j:Int),(k:Int)]=[.int .i64 j,.int .i64 k]:=rfl
  have c6:¬ 2 < 2+((zdL [p,q]).length:Int):=by simp at c5; simp [c5]
  have hp0:¬ p=[]:=by intro e; rw [hml2,if_pos e] at c5; simp at c5
  have hq0:¬ q=[]:=by intro e; rw [hml2,if_pos e] at c5; simp at c5
  have hpl:p.length=32∧q.length=32:=by
   simp [fitS] at c4
   exact ⟨by rcases c4.1 with e | e; exact absurd e hp0; omega,by rcases c4.2 with e | e; exact absurd e hq0; omega⟩
  have hT:=zIV (ps:=fP (zcH ls)) (by simp; omega) (by simp; omega) (by intro x hx; obtain ⟨l,hl,rfl⟩:=List.mem_map.1 hx; unfold zcH at hl; obtain ⟨y,_,rfl⟩:=List.mem_map.1 hl; exact ziY 32 y) .lent .lent .lent hpl.1 hpl.2 (j:=j) (k:=k) (by omega) (by omega)
  rw [zuN] at hT
  have hg:=zsR (ls:=zcH ls) (i:=j) (by omega)
  have hg2:=zsR (ls:=(zcH ls).set j (twoX p q (zcH ls) j k)) (i:=k) (by simp; omega)
  dsimp only
  simp (disch:=first | omega | assumption | (simp; done) | fail) [-List.all_eq_true,-List.all_cons,hmi,c1,c2,hfi,c3,hfpq,c4,hpq,zc8,hi1,zav,solD,hfl,hT,zap hg,zap hg2,pLs,zgn,hfill,c6,D.isAgg]
 ·rw [hmm] at c5; simp at c5; omega
end Wf

namespace Wf
open Go Go.RowKit Go.Proofs
set_option linter.unusedSimpArgs false
set_option linter.unusedVariables false
def zp2 (b:Int) (k:Nat) (s:Int×Int):Int×Int:=
  (if IntKind.i64.wrap (s.1*2) > 255 then bits .xor .i64 (IntKind.i64.wrap (s.1*2)) 285 else IntKind.i64.wrap (s.1*2),
   if bits .and .u8 (b.fdiv (2 ^ min k 8)) 1=1 then bits .xor .i64 s.2 s.1 else s.2)
def ze2 (a b:Int):Nat→Int×Int
 | 0=>(IntKind.i64.wrap a,0)
 | k+1=>zp2 b k (ze2 a b k)
def zfv (a b:Int):Int:=IntKind.u8.wrap (ze2 a b 8).2
theorem zDQ (a b:Int):zaU [.int .u8 a,.int .u8 b]=some (.int .u8 (zfv a b)):=by
 rw [zmi];unfold zge;rw [zam]
 refine zcj (fun k=>((b,(ze2 a b k).1,(ze2 a b k).2,(k:Int),PUnit.unit),PUnit.unit)) 8 (by omega) ?_ ?_
 ·intro again k hk;dsimp only
  have hd:decide ((k:Int) < 8)=true:=by simp; omega
  rw [hd,zaI,zam,zEU (by omega) (by omega),zaa (by omega),zam,zam,Int.toNat_natCast]
  have hs:ze2 a b (k+1)=zp2 b k (ze2 a b k):=rfl
  have hk1:IntKind.i64.wrap ((k:Int)+1)=((k+1:Nat):Int):=by rw [zav (by omega) (by omega)]; rfl
  rw [hs];unfold zp2
  by_cases hb:bits .and .u8 (b.fdiv (2 ^ min k 8)) 1=1
  ·have hb':(bits .and .u8 (b.fdiv (2 ^ min k 8)) 1 == 1)=true:=by simp [hb]
   rw [hb',zaI,zam,zam,if_pos hb]
   by_cases hx:IntKind.i64.wrap ((ze2 a b k).1*2) > 255
   ·have hx':decide (IntKind.i64.wrap ((ze2 a b k).1*2) > 255)=true:=by simp [hx]
    rw [hx',zaI,zam,zam,hk1,if_pos hx]
   ·have hx':decide (IntKind.i64.wrap ((ze2 a b k).1*2) > 255)=false:=by simp; omega
    rw [hx',zas,zam,hk1,if_neg hx]
  ·have hb':(bits .and .u8 (b.fdiv (2 ^ min k 8)) 1 == 1)=false:=by simp [hb]
   rw [hb',zas,zam,if_neg hb]
   by_cases hx:IntKind.i64.wrap ((ze2 a b k).1*2) > 255
   ·have hx':decide (IntKind.i64.wrap ((ze2 a b k).1*2) > 255)=true:=by simp [hx]
    rw [hx',zaI,zam,zam,hk1,if_pos hx]
   ·have hx':decide (IntKind.i64.wrap ((ze2 a b k).1*2) > 255)=false:=by simp; omega
    rw [hx',zas,zam,hk1,if_neg hx]
 ·intro again;dsimp only
  have hd:decide (((8:Nat):Int) < 8)=false:=by simp
  rw [hd,zas,zam];rfl
def zeB:Nat→Int
 | 0=>1
 | k+1=>zfv (zeB k) 2
theorem zHw (k:Nat) (hk:k < 255):zbE [.int .i64 k]=some (.int .u8 (zeB k)):=by
 rw [zmk];unfold zgf
 have e1:Int.tmod (k:Int) 255=k:=by rw [Int.tmod_eq_emod_of_nonneg (by omega),Int.emod_eq_of_lt (by omega) (by omega)]
 have hd:decide ((k:Int) < 0)=false:=by simp
 rw [zam,e1,hd,zas]
 let st:Nat→(Int×Int×PUnit)×PUnit:=fun j=>(((k:Int) - (j:Int),zeB j,PUnit.unit),PUnit.unit)
 have hst:st 0=(((k:Int),1,PUnit.unit),PUnit.unit):=by simp [st,zeB]
 rw [←hst]
 refine zcj st k (by omega) ?_ ?_
 ·intro again j hj;dsimp only [st]
  have hd:decide ((k:Int) - (j:Int) > 0)=true:=by simp; omega
  rw [hd,zaI,zDQ,zab,zaR,zam,zav (by omega) (by omega)]
  have:(k:Int) - (j:Int) - 1=(k:Int) - ((j+1:Nat):Int):=by omega
  rw [this];rfl
 ·intro again;dsimp only [st]
  have hd:decide ((k:Int) - (k:Int) > 0)=false:=by simp
  rw [hd,zas]
def mixL (f:Int→Int→Int) (acc p:List Int) (j:Nat):List Int:=(List.zipWith f acc p).take j++acc.drop j
theorem zAH {f:Int→Int→Int} {acc p:List Int} (h:p.length=acc.length) {j:Nat} (hj:j≤acc.length):(mixL f acc p j).length=acc.length:=by
 unfold mixL; simp [h]; omega
theorem zAI {f:Int→Int→Int} {acc p:List Int} (h:p.length=acc.length) {j:Nat} (hj:j < acc.length):(mixL f acc p j)[j]? =some acc[j]:=by
 unfold mixL
 rw [List.getElem?_append_right (by simp; omega)]
 simp [h]
 rw [show j - min j acc.length=0 by omega]
 simp [hj]
theorem zAJ {f:Int→Int→Int} {acc p:List Int} (h:p.length=acc.length) {j:Nat} (hj:j < acc.length):(mixL f acc p j).set j (f acc[j] (p[j]'(by omega)))=mixL f acc p (j+1):=by
 unfold mixL
 have hl:((List.zipWith f acc p).take j).length=j:=by simp [h]; omega
 rw [List.set_append_right _ _ (by omega),hl,Nat.sub_self,List.take_add_one,List.drop_eq_getElem_cons hj,List.set_cons_zero]
 simp [List.getElem?_zipWith,hj,h]
theorem zAK {f:Int→Int→Int} {acc p:List Int} (h:p.length=acc.length):mixL f acc p acc.length=List.zipWith f acc p:=by
 unfold mixL
 rw [List.drop_of_length_le (Nat.le_refl _),List.append_nil,List.take_of_length_le (by simp; omega)]
theorem zyp (f:Int→Int→Int) (acc p:List Int):mixL f acc p 0=acc:=by simp [mixL]
def sumR (F:Nat→Int→Int) (n:Nat) (ls:List (List Int)):Nat→List Int
 | 0=>List.replicate n 0
 | k+1=>List.zipWith (fun a x=>xor8 a (F k x)) (sumR F n ls k) (ls.getD k [])
theorem zwA {F:Nat→Int→Int} {n:Nat} {ls:List (List Int)} (h:∀ l∈ls,l.length=n):∀ {k:Nat},k≤ls.length→(sumR F n ls k).length=n
 | 0,_=>by simp [sumR]
 | k+1,hk=>by
  have e:ls.getD k []=ls[k]:=by simp [List.getD_eq_getElem?_getD,List.getElem?_eq_getElem (show k < ls.length by omega)]
  simp only [sumR,List.length_zipWith,e,zwA h (show k≤ls.length by omega),h _ (List.getElem_mem (show k < ls.length by omega))]
  omega
def refP (n:Nat) (ls:List (List Int)):List Int:=sumR (fun _ x=>x) n ls ls.length
def refQ (n:Nat) (ls:List (List Int)):List Int:=sumR (fun k x=>zfv x (zeB k)) n ls ls.length
theorem zyq (tg:Tag) {ps:List Part} {n:Nat} (h0:0 < ps.length) (h1:ps.length < 100000) (h:∀ x∈ps,x.2.length=n):zaO [.sl tg (pL ps)]=some (.bool true):=by
 rw [zkr,zdb]
 have hlen:(ps.map fun x=>(zbT x.1 x.2,x.2)).length=ps.length:=by simp
 have hl':∀ x∈(ps.map fun x=>(zbT x.1 x.2,x.2)),x.2.length=n:=by intro x hx; obtain ⟨y,hy,rfl⟩:=List.mem_map.1 hx; exact h y hy
 rw [←hlen] at h0 h1
 generalize (ps.map fun x=>(zbT x.1 x.2,x.2))=rs at*
 unfold zfk;obtain ⟨x0,hx0⟩:∃ x,rs[0]? =some x:=⟨_,List.getElem?_eq_getElem h0⟩
 refine zcj (fun k=>((pL rs,pL rs,((pL rs).length:Int),(k:Int),PUnit.unit),PUnit.unit)) rs.length h1 ?_ ?_
 ·intro again k hk;dsimp only;obtain ⟨x,hx⟩:∃ x,rs[k]? =some x:=⟨_,List.getElem?_eq_getElem hk⟩
  have hd:decide ((k:Int) < ((pL rs).length:Int))=true:=by simp; omega
  have hb:(((uL x.2).length:Int) != ((uL x0.2).length:Int))=false:=by simp [hl' x (List.mem_of_getElem? hx),hl' x0 (List.mem_of_getElem? hx0)]
  rw [hd,zaI,zaa (by omega),zap (by simpa using zc7 hx),zdi,zap (zc7 hx0),zdi,hb,zas,zam,zav (by omega) (by omega)]
  rfl
 ·intro again
  have hd:decide ((rs.length:Int) < ((pL rs).length:Int))=false:=by simp
  have hd2:decide (((pL rs).length:Int) > 0)=true:=by simp; omega
  dsimp only;rw [hd,zas,hd2]
theorem zJH (tg:Tag) {ps:List Part} {n:Nat} (hn:n < 100000) (h0:0 < ps.length) (h1:ps.length < 100000) (h:∀ x∈ps,x.2.length=n):zbV [.sl tg (pL ps)]=some (.sl .own (uL (refP n (ps.map (·.2))))):=by
 rw [zos,zdb]
 have hlen:(ps.map fun x=>(zbT x.1 x.2,x.2)).length=ps.length:=by simp
 have hm:(ps.map fun x=>(zbT x.1 x.2,x.2)).map (·.2)=ps.map (·.2):=by rw [List.map_map]; rfl
 have hl':∀ x∈(ps.map fun x=>(zbT x.1 x.2,x.2)),x.2.length=n:=by intro x hx; obtain ⟨y,hy,rfl⟩:=List.mem_map.1 hx; exact h y hy
 rw [←hlen] at h0 h1;rw [←hm]
 generalize (ps.map fun x=>(zbT x.1 x.2,x.2))=rs at*
 clear hm hlen h ps;unfold zhw;obtain ⟨x0,hx0⟩:∃ x,rs[0]? =some x:=⟨_,List.getElem?_eq_getElem h0⟩
 have hls:∀ l∈rs.map (·.2),l.length=n:=by intro l hl; obtain ⟨y,hy,rfl⟩:=List.mem_map.1 hl; exact hl' y hy
 rw [zyq .lent h0 h1 hl',zab,zbo,Bool.not_true,zas,zap (zc7 hx0),zdi,zaa (by rfl),zcC,hl' x0 (List.mem_of_getElem? hx0),zaa (by omega),zaa (by omega),zaa (by simp),Int.toNat_natCast,zut]
 let st:Nat→(List D×List D×Int×Int×PUnit)×PUnit:=fun k=>((uL (sumR (fun _ x=>x) n (rs.map (·.2)) k),pL rs,((pL rs).length:Int),(k:Int),PUnit.unit),PUnit.unit)
 have hst:st 0=((uL (List.replicate n 0),pL rs,((pL rs).length:Int),0,PUnit.unit),PUnit.unit):=rfl;rw [←hst];refine zcj st rs.length h1 ?_ ?_
 ·intro again k hk;dsimp only [st];obtain ⟨x,hx⟩:∃ x,rs[k]? =some x:=⟨_,List.getElem?_eq_getElem hk⟩;have hxl:=hl' x (List.mem_of_getElem? hx)
  have hd:decide ((k:Int) < ((pL rs).length:Int))=true:=by simp; omega
  have hsl:=zwA (F:=fun _ x=>x) hls (k:=k) (by simp; omega)
  have hxe:x.2.length=(sumR (fun _ x=>x) n (rs.map (·.2)) k).length:=by omega
  rw [hd,zaI,zaa (by omega),zap (by simpa using zc7 hx),zdi,zaa (by rfl)]
  let s2:Nat→(List D×List D×Int×Int×(Tag×List D)×Int×Int×PUnit)×PUnit:=fun j=>((uL (mixL (fun a x=>xor8 a x) (sumR (fun _ x=>x) n (rs.map (·.2)) k) x.2 j),pL rs,((pL rs).length:Int),(k:Int),(x.1,uL x.2),((uL x.2).length:Int),(j:Int),PUnit.unit),PUnit.unit)
  have hs2:s2 0=((uL (sumR (fun _ x=>x) n (rs.map (·.2)) k),pL rs,((pL rs).length:Int),(k:Int),(x.1,uL x.2),((uL x.2).length:Int),0,PUnit.unit),PUnit.unit):=by simp only [s2,zyp]; rfl
  rw [←hs2]
  refine zcj s2 x.2.length (by omega) ?_ ?_
  ·intro again2 j hj;dsimp only [s2]
   have hd:decide ((j:Int) < ((uL x.2).length:Int))=true:=by simp; omega
   have g1:x.2[j]? =some x.2[j]:=List.getElem?_eq_getElem hj
   have g2:=zAI (f:=fun a x=>xor8 a x) hxe (j:=j) (by omega)
   have ml:=zAH (f:=fun a x=>xor8 a x) hxe (j:=j) (by omega)
   have ms:=zAJ (f:=fun a x=>xor8 a x) hxe (j:=j) (by omega)
   rw [hd,zaI,zaa (by omega),zap (by simpa using zj9 g1),zaR,zaa (by omega),zaa (by rw [zcC,ml]; omega),zap (by simpa using zj9 g2),zaR,zam,zaa (by omega),zaa (by rw [zcC,ml]; omega),zap (by simpa using zj9 g2),zaa (by rfl),zam,
    zav (by omega) (by omega),zaa (by simp),Nat.zero_add,zr3,show Int.toNat (j:Int)=j from rfl,ms]
   rfl
  ·intro again2;dsimp only [s2]
   have hd:decide ((x.2.length:Int) < ((uL x.2).length:Int))=false:=by simp
   have me:mixL (fun a x=>xor8 a x) (sumR (fun _ x=>x) n (rs.map (·.2)) k) x.2 x.2.length=sumR (fun _ x=>x) n (rs.map (·.2)) (k+1):=by
    rw [hxe,zAK hxe]
    have:(rs.map (·.2)).getD k []=x.2:=by simp [List.getD_eq_getElem?_getD,hx]
    simp only [sumR,this]
   rw [hd,zas,zam,zav (by omega) (by omega),zaa (by rfl),me]
   rfl
 ·intro again;dsimp only [st]
  have hd:decide ((rs.length:Int) < ((pL rs).length:Int))=false:=by simp
  rw [hd,zas,zaa (by rfl),zaa (zhr _)]
  simp [refP]
theorem zJI (tg:Tag) {ps:List Part} {n:Nat} (hn:n < 100000) (h0:0 < ps.length) (h1:ps.length < 255) (h:∀ x∈ps,x.2.length=n):zbW [.sl tg (pL ps)]=some (.sl .own (uL (refQ n (ps.map (·.2))))):=by
 rw [zou,zdb]
 have hlen:(ps.map fun x=>(zbT x.1 x.2,x.2)).length=ps.length:=by simp
 have hm:(ps.map fun x=>(zbT x.1 x.2,x.2)).map (·.2)=ps.map (·.2):=by rw [List.map_map]; rfl
 have hl':∀ x∈(ps.map fun x=>(zbT x.1 x.2,x.2)),x.2.length=n:=by intro x hx; obtain ⟨y,hy,rfl⟩:=List.mem_map.1 hx; exact h y hy
 rw [←hlen] at h0 h1;rw [←hm]
 generalize (ps.map fun x=>(zbT x.1 x.2,x.2))=rs at*
 clear hm hlen h ps;unfold zhz;obtain ⟨x0,hx0⟩:∃ x,rs[0]? =some x:=⟨_,List.getElem?_eq_getElem h0⟩
 have hls:∀ l∈rs.map (·.2),l.length=n:=by intro l hl; obtain ⟨y,hy,rfl⟩:=List.mem_map.1 hl; exact hl' y hy
 rw [zyq .lent h0 (by omega) hl',zab,zbo,Bool.not_true,zas,zap (zc7 hx0),zdi,zaa (by rfl),zcC,hl' x0 (List.mem_of_getElem? hx0),zaa (by omega),zaa (by omega),zaa (by simp),Int.toNat_natCast,zut]
 let st:Nat→(List D×List D×Int×Int×PUnit)×PUnit:=fun k=>((uL (sumR (fun k x=>zfv x (zeB k)) n (rs.map (·.2)) k),pL rs,((pL rs).length:Int),(k:Int),PUnit.unit),PUnit.unit)
 have hst:st 0=((uL (List.replicate n 0),pL rs,((pL rs).length:Int),0,PUnit.unit),PUnit.unit):=rfl;rw [←hst]
 refine zcj st rs.length (by omega) ?_ ?_
 ·intro again k hk;dsimp only [st];obtain ⟨x,hx⟩:∃ x,rs[k]? =some x:=⟨_,List.getElem?_eq_getElem hk⟩;have hxl:=hl' x (List.mem_of_getElem? hx)
  have hd:decide ((k:Int) < ((pL rs).length:Int))=true:=by simp; omega
  have hsl:=zwA (F:=fun k x=>zfv x (zeB k)) hls (k:=k) (by simp; omega)
  have hxe:x.2.length=(sumR (fun k x=>zfv x (zeB k)) n (rs.map (·.2)) k).length:=by omega
  rw [hd,zaI,zaa (by omega),zap (by simpa using zc7 hx),zdi,zHw k (by omega),zab,zaR,zaa (by rfl)]
  let s2:Nat→(List D×Int×List D×Int×Int×(Tag×List D)×Int×Int×PUnit)×PUnit:=fun j=>((uL (mixL (fun a x=>xor8 a (zfv x (zeB k))) (sumR (fun k x=>zfv x (zeB k)) n (rs.map (·.2)) k) x.2 j),zeB k,pL rs,((pL rs).length:Int),(k:Int),(x.1,uL x.2),((uL x.2).length:Int),(j:Int),PUnit.unit),PUnit.unit)
  have hs2:s2 0=((uL (sumR (fun k x=>zfv x (zeB k)) n (rs.map (·.2)) k),zeB k,pL rs,((pL rs).length:Int),(k:Int),(x.1,uL x.2),((uL x.2).length:Int),0,PUnit.unit),PUnit.unit):=by simp only [s2,zyp]; rfl
  rw [←hs2]
  refine zcj s2 x.2.length (by omega) ?_ ?_
  ·intro again2 j hj;dsimp only [s2]
   have hd:decide ((j:Int) < ((uL x.2).length:Int))=true:=by simp; omega
   have g1:x.2[j]? =some x.2[j]:=List.getElem?_eq_getElem hj
   have g2:=zAI (f:=fun a x=>xor8 a (zfv x (zeB k))) hxe (j:=j) (by omega)
   have ml:=zAH (f:=fun a x=>xor8 a (zfv x (zeB k))) hxe (j:=j) (by omega)
   have ms:=zAJ (f:=fun a x=>xor8 a (zfv x (zeB k))) hxe (j:=j) (by omega)
   rw [hd,zaI,zaa (by omega),zap (by simpa using zj9 g1),zaR,zaa (by omega),zaa (by rw [zcC,ml]; omega),zap (by simpa using zj9 g2),zaR,zDQ,zab,zaR,zam,zaa (by omega),zaa (by rw [zcC,ml]; omega),zap (by simpa using zj9 g2),zaa (by rfl),zam,
    zav (by omega) (by omega),zaa (by simp),Nat.zero_add,zr3,show Int.toNat (j:Int)=j from rfl,ms]
   rfl
  ·intro again2;dsimp only [s2]
   have hd:decide ((x.2.length:Int) < ((uL x.2).length:Int))=false:=by simp
   have me:mixL (fun a x=>xor8 a (zfv x (zeB k))) (sumR (fun k x=>zfv x (zeB k)) n (rs.map (·.2)) k) x.2 x.2.length=sumR (fun k x=>zfv x (zeB k)) n (rs.map (·.2)) (k+1):=by
    rw [hxe,zAK hxe]
    have:(rs.map (·.2)).getD k []=x.2:=by simp [List.getD_eq_getElem?_getD,hx]
    simp only [sumR,this]
   rw [hd,zas,zam,zav (by omega) (by omega),zaa (by rfl),me]
   rfl
 ·intro again;dsimp only [st]
  have hd:decide ((rs.length:Int) < ((pL rs).length:Int))=false:=by simp
  rw [hd,zas,zaa (by rfl),zaa (zhr _)]
  simp [refQ]
def zmQ (n:Int) (i:Nat):Int:=IntKind.u8.wrap (IntKind.i64.wrap (n+IntKind.i64.wrap ((i:Int)*bits .or .i64 (IntKind.i64.wrap (n.tdiv 7)) 1)))
def secN (n:Int):List Int:=if n % 11=10 then List.replicate 32 0 else (List.range 32).map (zmQ n)
theorem zwB (n:Int):Sec (secN n):=by
 unfold secN;split
 ·exact ziX
 ·refine ⟨by simp,fun x h=>?_⟩
  obtain ⟨i,_,rfl⟩:=List.mem_map.1 h;exact zfD _
theorem zj5 (n:Int):zau [.int .i64 n]=some (.sl .own (uL (secN n))):=by
 rw [zko];unfold zfj
 rw [znF n 11 (by omega) (by omega),zab,zaR]
 unfold secN
 by_cases h:n % 11=10
 ·rw [if_pos h]; simp [h]; rfl
 ·rw [if_neg h]
  have hb:(n % 11 == 10)=false:=by simp [h]
  rw [hb,zas]
  have:=zcj (R:=D) (α:=(Int×List D×Int×Int×PUnit)×PUnit)
   (fun k=>((n,uL ((List.range 32).map fun i=>if i < k then zmQ n i else 0),32,(k:Int),PUnit.unit),PUnit.unit)) 32 (by omega)
   (B:=?B) (r:=some (.sl .own (uL ((List.range 32).map (zmQ n))))) ?_ ?_
  ·exact this
  ·intro again k hk;dsimp only
   have hd:decide ((k:Int) < 32)=true:=by simp; omega
   have hg:((List.range 32).map fun i=>if i < k then zmQ n i else 0)[k]? =some 0:=by simp [hk]
   have hv:zmQ n k=IntKind.u8.wrap (IntKind.i64.wrap (n+IntKind.i64.wrap ((k:Int)*bits .or .i64 (IntKind.i64.wrap (n.tdiv 7)) 1))):=rfl
   rw [hd,zaI,zam,zam,zam,zam,zam,←hv,zaa (by omega),zaa (by simp; omega),zap (by simpa using zj9 hg)]
   rw [zaa (by rfl),zam,zav (n:=(k:Int)+1) (by omega) (by omega),zaa (by simp)]
   have:(uL ((List.range 32).map fun i=>if i < k then zmQ n i else 0)).set (0+Int.toNat (k:Int)) (.int .u8 (zmQ n k))=uL ((List.range 32).map fun i=>if i < k+1 then zmQ n i else 0):=by
    rw [zr3];congr 1;apply List.ext_getElem?;intro j;rw [List.getElem?_set]
    by_cases hj:j < 32
    ·by_cases hjk:k=j
     ·subst hjk; simp [hj]
     ·have:(0+Int.toNat (k:Int))≠j:=by simp; exact hjk
      rw [if_neg this];simp [hj]
      by_cases h1:j < k
      ·rw [if_pos h1,if_pos (by omega)]
      ·rw [if_neg h1,if_neg (by omega)]
    ·simp [hj];omega
   rw [this];rfl
  ·intro again
   have e:((List.range 32).map fun i=>if i < 32 then zmQ n i else 0)=(List.range 32).map (zmQ n):=by
    apply List.map_congr_left; intro i hi; rw [if_pos (List.mem_range.1 hi)]
   dsimp only;rw [e];simp
def secL (l:List Int) (n:Nat):List (List Int):=(List.range n).map fun (i:Nat)=>secN (l.getD i (3*(i:Int)))
theorem zAL (l:List Int) (n:Nat):∀ x∈secL l n,Sec x:=by
 intro x hx; obtain ⟨i,_,rfl⟩:=List.mem_map.1 hx; exact zwB _
@[simp] theorem zJh (l:List Int) (n:Nat):(secL l n).length=n:=by simp [secL]
theorem zzI (ls:List (List Int)) (l:List Int):pL (fP ls)++[.sl .fresh (uL l)]=pL (fP (ls++[l])):=by simp [pL,fP]
theorem zyr (tg:Tag) (l:List Int) {n:Nat} (hn:n < 100000):zbe [.sl tg (intL l),.int .i64 n]=some (.sl .own (pL (fP (secL l n)))):=by
 rw [zjK,zkU];unfold zeS
 let st:Nat→(List D×Int×List D×Int×PUnit)×PUnit:=fun k=>((intL l,(n:Int),pL (fP (secL l k)),(k:Int),PUnit.unit),PUnit.unit)
 show zb2 _ (st 0)=_;refine zcj st n hn ?_ ?_
 ·intro again k hk;dsimp only [st]
  have hd:decide ((k:Int) < (n:Int))=true:=by simp; omega
  have hs:secL l (k+1)=secL l k++[secN (l.getD k (3*(k:Int)))]:=by unfold secL; rw [List.range_succ,List.map_append]; rfl
  rw [hd,zaI,zam,zc8,hs,←zzI]
  by_cases hkl:k < l.length
  ·have hd2:decide ((k:Int) < (l.length:Int))=true:=by simp; omega
   have hg:l.getD k (3*(k:Int))=l[k]:=by simp [List.getD_eq_getElem?_getD,hkl]
   rw [hd2,zaI,zaa (by omega),zap (by simpa using zES hkl),zaR,zj5,zab,zbA,zaa (by omega),zaa (by simp; omega),zaa (by rfl),zam,zav (n:=(k:Int)+1) (by omega) (by omega),zb5,zaa (by simp),hg]
   rfl
  ·have hd2:decide ((k:Int) < (l.length:Int))=false:=by simp; omega
   have hg:l.getD k (3*(k:Int))=3*(k:Int):=by simp [List.getD_eq_getElem?_getD,List.getElem?_eq_none (show l.length≤k by omega)]
   rw [hd2,zas,zav (n:=3*(k:Int)) (by omega) (by omega),zj5,zab,zbA,zaa (by omega),zaa (by simp; omega),zaa (by rfl),zam,zav (n:=(k:Int)+1) (by omega) (by omega),zb5,zaa (by simp),hg]
   rfl
 ·intro again;dsimp only [st]
  have hd:decide ((n:Int) < (n:Int))=false:=by simp
  rw [hd,zas,zaa (by rfl),zaa (zgn _)]
def zl3 (b:Nat) (k:Nat) (s:Nat×Nat):Nat×Nat:=
 (if 255 < s.1*2 then (s.1*2) ^^^ 285 else s.1*2,if b / 2 ^ k % 2=1 then s.2 ^^^ s.1 else s.2)
def zcY (a b:Nat):Nat→Nat×Nat
 | 0=>(a,0)
 | k+1=>zl3 b k (zcY a b k)
theorem zHx {m n k:Nat} (hm:m < 2 ^ k) (hn:n < 2 ^ k):m ^^^ n < 2 ^ k:=Nat.xor_lt_two_pow hm hn
theorem zIW (m n:Nat) (hm:m < 1024) (hn:n < 1024):bits .xor .i64 (m:Int) (n:Int)=((m ^^^ n:Nat):Int):=by
 have h:m ^^^ n < 2 ^ 10:=zHx (by omega) (by omega)
 have e:((BitVec.ofInt 64 (m:Int)) ^^^ (BitVec.ofInt 64 (n:Int))).toNat=m ^^^ n:=by
  rw [BitVec.toNat_xor]
  simp [Nat.mod_eq_of_lt (show m < 18446744073709551616 by omega),Nat.mod_eq_of_lt (show n < 18446744073709551616 by omega)]
 show IntKind.i64.wrap (((BitVec.ofInt 64 (m:Int)) ^^^ (BitVec.ofInt 64 (n:Int))).toNat:Int)=_;rw [e]
 exact zav (by omega) (by omega)
theorem zsS {a b:Nat} (ha:a < 256) (hb:b < 256):∀ k,k≤8→(ze2 a b k).1=((zcY a b k).1:Int)∧(ze2 a b k).2=((zcY a b k).2:Int)∧(zcY a b k).1 < 256∧(zcY a b k).2 < 256
 | 0,_=>⟨zav (by omega) (by omega),rfl,ha,by show 0 < 256; omega⟩
 | k+1,hk=>by
  obtain ⟨h1,h2,h3,h4⟩:=zsS ha hb k (by omega)
  have w:IntKind.i64.wrap (((zcY a b k).1:Int)*2)=(((zcY a b k).1*2:Nat):Int):=by rw [zav (by omega) (by omega)]; omega
  have hx:(zcY a b k).2 ^^^ (zcY a b k).1 < 256:=zoc h4 h3
  have hbk:bits .and .u8 ((b:Int).fdiv (2 ^ min k 8)) 1=((b / 2 ^ k % 2:Nat):Int):=by
   have e:((b:Int).fdiv (2 ^ min k 8))=((b / 2 ^ k:Nat):Int):=by
    rw [show min k 8=k by omega,Int.fdiv_eq_ediv_of_nonneg _ (by exact_mod_cast Nat.zero_le (2 ^ k))]
    simp
   rw [e];exact and1 _ (Nat.lt_of_le_of_lt (Nat.div_le_self _ _) hb)
  have hd:∀ x < 256,255 < x*2→(x*2) ^^^ 285 < 256:=by decide+kernel
  show (zp2 b k (ze2 a b k)).1=((zl3 b k (zcY a b k)).1:Int)∧(zp2 b k (ze2 a b k)).2=((zl3 b k (zcY a b k)).2:Int)∧(zl3 b k (zcY a b k)).1 < 256∧(zl3 b k (zcY a b k)).2 < 256;unfold zp2 zl3
  rw [h1,h2,hbk,w,zIW _ _ (by omega) (by omega)]
  have hx2:=zIW ((zcY a b k).1*2) 285 (by omega) (by omega)
  refine ⟨?_,?_,?_,?_⟩
  ·dsimp only;split
   ·rw [if_pos (by omega)]; exact hx2
   ·rw [if_neg (by omega)]
  ·dsimp only;split
   ·rw [if_pos (by omega)]
   ·rw [if_neg (by omega)]
  ·dsimp only;split
   ·exact hd _ h3 (by assumption)
   ·omega
  ·dsimp only;split
   ·exact hx
   ·exact h4
theorem zuO {a b:Nat} (ha:a < 256) (hb:b < 256):zfv a b=((zcY a b 8).2:Int)∧(zcY a b 8).2 < 256:=by
 obtain ⟨_,h2,_,h4⟩:=zsS ha hb 8 (Nat.le_refl _);unfold zfv;rw [h2]
 exact ⟨zy9 (by omega) (by omega),h4⟩
def zp3:Nat→Nat
 | 0=>1
 | k+1=>(zcY (zp3 k) 2 8).2
theorem zuP:∀ k,zeB k=(zp3 k:Int)∧zp3 k < 256
 | 0=>⟨rfl,by decide⟩
 | k+1=>by
  obtain ⟨h1,h2⟩:=zuP k;show zfv (zeB k) 2=((zcY (zp3 k) 2 8).2:Int)∧(zcY (zp3 k) 2 8).2 < 256
  have:=zuO h2 (show 2 < 256 by omega)
  rw [show ((2:Nat):Int)=2 from rfl] at this
  rw [h1]; exact this
theorem zys:∀ k < 7,∀ x < 256,(zcY x (zp3 k) 8).2=mN x (powN k):=by decide+kernel
theorem zzJ {x:Int} (h:Byt x) {k:Nat} (hk:k < 7):zfv x (zeB k)=mul8 x (pow8 k):=by
 obtain ⟨m,hm,rfl⟩:=zfe h;obtain ⟨h1,h2⟩:=zuP k;have e1:=(zuO hm h2).1;have e2:=(zeK hm (zio k)).1;have e3:=zys k hk m hm;rw [h1,zlY,e1,e2,e3]
theorem zDR {F:Nat→Int→Int} {f:Nat→Int} {ls:List (List Int)} (h:∀ l∈ls,Sec l) (hF:∀ k x,k < ls.length→Byt x→F k x=mul8 x (f k)):∀ {k:Nat},k≤ls.length→sumR F 32 ls k=sumK f 32 ls k
 | 0,_=>rfl
 | k+1,hk=>by
  have hs:=h _ (zd1 (show k < ls.length by omega))
  show List.zipWith (fun a x=>xor8 a (F k x)) (sumR F 32 ls k) (ls.getD k [])=List.zipWith xor8 (sumK f 32 ls k) ((ls.getD k []).map (mul8 · (f k)))
  rw [zDR h hF (by omega),List.zipWith_map_right]
  apply List.ext_getElem?;intro i;rw [List.getElem?_zipWith,List.getElem?_zipWith]
  cases e1:(sumK f 32 ls k)[i]? with
  | none=>rfl
  | some a=>
   cases e2:(ls.getD k [])[i]? with
   | none=>rfl
   | some x=>simp only; rw [hF k x (by omega) (hs.byt x (List.mem_of_getElem? e2))]
theorem zFv {ls:List (List Int)} (h:∀ l∈ls,Sec l):refP 32 ls=sumP 32 ls:=by
 have:=zDR (F:=fun _ x=>x) (f:=fun _=>1) h (fun _ x _ hx=>(zq4 hx).symm) (Nat.le_refl ls.length)
 exact this
theorem zFw {ls:List (List Int)} (h:∀ l∈ls,Sec l) (h7:ls.length≤7):refQ 32 ls=sumQ 32 ls:=by
 have:=zDR (F:=fun k x=>zfv x (zeB k)) (f:=pow8) h (fun k x hk hx=>zzJ hx (by omega)) (Nat.le_refl ls.length)
 exact this
end Wf

namespace Wf
open Go Go.RowKit Go.Proofs
set_option linter.unusedSimpArgs false
set_option linter.unusedVariables false
set_option maxHeartbeats 4000000
section
variable (g:Geo) (row k n:Int)
theorem znH:zcV [.agg [.int .i64 g.l,.int .i64 g.d,.int .i64 g.c],.int .i64 row]=some (.bool (zcI g row)):=by
 rw [zzm];unfold zv5
 rw [show D.agg [.int .i64 g.l,.int .i64 g.d,.int .i64 g.c]=gD g.l g.d g.c from rfl,zjl,zab]
 show asI IntKind.i64 (.int .i64 _) _=_;rw [zaR];unfold zcI;cases h:g.ok
 ·have:zfr g.l g.d g.c=false:=h;simp [this]
 ·have:zfr g.l g.d g.c=true:=h
  by_cases h0:0≤row
  ·simp [this,h0]
  ·simp [this,h0]
theorem zjn:zaB [.agg [.int .i64 g.l,.int .i64 g.d,.int .i64 g.c],.int .i64 row]=some (.tup [.int .i64 (parP g row).1,.int .i64 (parP g row).2]):=zyj g row
theorem zsT:zaW [.agg [.int .i64 g.l,.int .i64 g.d,.int .i64 g.c],.int .i64 row,.int .i64 k]=some (.int .i64 (zcO g row k)):=zuL g row k
theorem zl4:zai [.agg [.int .i64 g.l,.int .i64 g.d,.int .i64 g.c]]=some (.int .i64 g.width):=zlF g
theorem zDS:zbh [.agg [.int .i64 g.l,.int .i64 g.d,.int .i64 g.c],.int .i64 row,.int .i64 k]=some (.int .i64 (zcO g row k)):=zFi g row k
theorem zAM:zaJ [.agg [.int .i64 g.l,.int .i64 g.d,.int .i64 g.c],.int .i64 row]=some (.tup [.int .i64 (parP g row).1,.int .i64 (parP g row).2]):=zDC g row
theorem zsU:zax [.agg [.int .i64 g.l,.int .i64 g.d,.int .i64 g.c],.int .i64 row]=some (.bool (zcI g row)):=zwx g row
theorem zl5:zag [.agg [.int .i64 g.l,.int .i64 g.d,.int .i64 g.c]]=some (.int .i64 g.width):=zuK g
theorem zDT:zdg [.agg [.int .i64 g.l,.int .i64 g.d,.int .i64 g.c],.int .i64 n]=some (.tup [.int .i64 (ofP g n).1,.int .i64 (ofP g n).2.1,.bool (ofP g n).2.2]):=zFj g n
theorem zzK:zbR [.agg [.int .i64 g.l,.int .i64 g.d,.int .i64 g.c],.int .i64 row]=some (.sl .own (zDm g row)):=zBC g row
end
def zhS (g:Geo) (row:Int) (ls:List (List Int)):Nat→List Part
 | 0=>List.replicate g.d.toNat (Tag.nil,[])
 | k+1=>(zhS g row ls k).set (zcO g row (k:Int)).toNat (Tag.fresh,ls.getD k [])
def zBG (g:Geo) (row:Int) (ls:List (List Int)) (p q:List Int):List Part:=
 if (parP g row).2 < 0 then (zhS g row ls g.width.toNat).set (parP g row).1.toNat (Tag.fresh,p)
 else ((zhS g row ls g.width.toNat).set (parP g row).1.toNat (Tag.fresh,p)).set (parP g row).2.toNat (Tag.fresh,q)
theorem zfS (g:Geo) (row:Int) (ls:List (List Int)) (k:Nat):(zhS g row ls k).length=g.d.toNat:=by
 induction k with
 | zero=>simp [zhS]
 | succ k ih=>simp [zhS,ih]
theorem zuQ (g:Geo) (row:Int) (ls:List (List Int)) (k:Nat):∀ x∈zhS g row ls k,Part.free x=true:=by
 induction k with
 | zero=>intro x hx; rw [(List.mem_replicate.1 hx).2]; rfl
 | succ k ih=>
  intro x hx;rcases List.mem_or_eq_of_mem_set hx with hx | hx
  ·exact ih x hx
  ·rw [hx]; rfl
theorem zrb {ps:List Part} (h:∀ x∈ps,Part.free x=true) (i:Nat) (l:List Int):∀ x∈ps.set i (Tag.fresh,l),Part.free x=true:=by
 intro x hx;rcases List.mem_or_eq_of_mem_set hx with hx | hx
 ·exact h x hx
 ·rw [hx]; rfl
theorem zj6 (t:Tag) (l:List D):D.isAgg (.sl t l)=false:=rfl
theorem zAN (n:Nat):pL (List.replicate n (Tag.nil,[]))=List.replicate n (D.sl .nil []):=by simp [pL,uL]
section
variable {g:Geo} {row:Int} (h:zcI g row=true)
include h
theorem zAO {ls:List (List Int)} {d:Int} (d0:0≤d) (d1:d < g.d) (h1:d≠(parP g row).1) (h2:d≠(parP g row).2):∀ k:Nat,(k:Int)≤g.width→
  (zhS g row ls k)[d.toNat]? =some (if zfF g d row < k then (Tag.fresh,ls.getD (zfF g d row).toNat []) else (Tag.nil,[]))
 | 0,_=>by
  obtain ⟨c0,c1,c2⟩:=zjD h d0 d1 h1 h2;unfold zhS
  rw [List.getElem?_replicate,if_pos (by omega),if_neg (by omega)]
 | k+1,hk=>by
  obtain ⟨c0,c1,c2⟩:=zjD h d0 d1 h1 h2
  have hdi:=zht h (k:=(k:Int)) (by omega) (by omega)
  have ih:=zAO (ls:=ls) d0 d1 h1 h2 k (by omega)
  unfold zhS;rw [List.getElem?_set]
  by_cases e:zfF g d row=k
  ·have e2:zcO g row k=d:=by rw [←e]; exact c2
   rw [if_pos (by rw [e2]),if_pos (by rw [zfS,e2]; omega),if_pos (by omega)]
   congr 3;rw [e]; rfl
  ·have e2:zcO g row k≠d:=fun e2=>e (zsb h c0 c1 (by omega) (by omega) (by rw [c2,e2]))
   rw [if_neg (by omega),ih]
   by_cases hlt:zfF g d row < k
   ·rw [if_pos hlt,if_pos (by omega)]
   ·rw [if_neg hlt,if_neg (by omega)]
theorem zuR (ls:List (List Int)) (p q:List Int) (hp:p=sumP 32 ls) (hq:q=sumQ 32 ls∨g.l=5):zBG g row ls p q=fP (zdu g row ls):=by
 obtain ⟨hk,r0,r1⟩:=zbJ.1 h;have hw:=zca hk;obtain ⟨p0,p1,p2⟩:=zk4 h;have hpq:=zDp h
 have hlen:(zBG g row ls p q).length=g.d.toNat:=by unfold zBG; split<;>simp [zfS]
 apply List.ext_getElem?;intro i
 by_cases hi:i < g.d.toNat
 ·have hr:(fP (zdu g row ls))[i]? =some (Tag.fresh,atR g row ls i):=zAG (zpu (by omega))
  rw [hr]
  have hbase:∀ d:Int,0≤d→d < g.d→d≠(parP g row).1→d≠(parP g row).2→(zhS g row ls g.width.toNat)[d.toNat]? =some (Tag.fresh,atR g row ls d):=by
   intro d d0 d1 n1 n2;obtain ⟨c0,c1,c2⟩:=zjD h d0 d1 n1 n2
   rw [zAO h d0 d1 n1 n2 _ (by omega),if_pos (by omega)]
   unfold atR;rw [if_neg n1,if_neg n2]
  unfold zBG
  by_cases e1:(i:Int)=(parP g row).1
  ·have ha:atR g row ls i=p:=by rw [e1,at_p h,hp]
   rw [ha];split
   ·rw [List.getElem?_set,if_pos (by omega),if_pos (by rw [zfS]; omega)]
   ·rw [List.getElem?_set,if_neg (by omega),List.getElem?_set,if_pos (by omega),if_pos (by rw [zfS]; omega)]
  ·by_cases e2:(i:Int)=(parP g row).2
   ·have ha:atR g row ls i=sumQ 32 ls:=by rw [e2,at_q h]
    have h6:¬ (parP g row).2 < 0:=by omega
    rw [ha,if_neg h6,List.getElem?_set,if_pos (by omega),if_pos (by rw [List.length_set,zfS]; omega)]
    rcases hq with hq | hq
    ·rw [hq]
    ·rcases p2 with ⟨e,_⟩ | ⟨_,_,e⟩<;>omega
   ·have:=hbase i (by omega) (by omega) e1 e2
    rw [Int.toNat_natCast] at this;split
    ·rw [List.getElem?_set,if_neg (by omega),this]
    ·rw [List.getElem?_set,if_neg (by omega),List.getElem?_set,if_neg (by omega),this]
 ·rw [List.getElem?_eq_none (by omega),List.getElem?_eq_none (by simp [zl2]; omega)]
end
theorem zFx (t:Tag) (l:List Int):zaw [.sl t (uL l)]=some (.bool (!decide (l.length=32))):=by
 rw [zoI,zcN];unfold zhJ;simp only [zcC];congr 2
 by_cases h:l.length=32
 ·simp [h]
 ·simp [h]; omega
theorem zp4 (tg:Tag) (ps:List Part) (hn:ps.length < 100000):
  ∃ r,zaj [.sl tg (pL ps),.fn ID.row_sectors_1 [] []]=some r∧∃ i:Int,r=.int .i64 i∧decide (i≥0)= !(ps.all fun x=>decide (x.2.length=32)):=by
 rw [zem,zdb]
 have hm:(ps.all fun x=>decide (x.2.length=32))=((ps.map fun x=>(zbT x.1 x.2,x.2)).all fun x=>decide (x.2.length=32)):=by rw [List.all_map]; rfl
 have hlen:(ps.map fun x=>(zbT x.1 x.2,x.2)).length=ps.length:=by simp
 rw [hm];rw [←hlen] at hn
 generalize (ps.map fun x=>(zbT x.1 x.2,x.2))=rs at*
 unfold zcf
 refine zvF (fun a=>(rs.length:Nat) - a.1.2.2.1.toNat) (fun r=>∃ i:Int,r=D.int .i64 i∧decide (i≥0)= !(rs.all fun x=>decide (x.2.length=32)))
  (fun a=>∃ k:Nat,k≤rs.length∧((rs.take k).all fun x=>decide (x.2.length=32))=true∧a=((pL rs,(rs.length:Int),(k:Int),PUnit.unit),PUnit.unit)) ?_ ⟨0,by omega,by simp,by rw [zeA]; rfl⟩ (by simp; omega)
 rintro again _ ⟨k,hk,he,rfl⟩ hag
 dsimp only
 by_cases hkm:k < rs.length
 ·obtain ⟨x,hx⟩:∃ x,rs[k]? =some x:=⟨_,List.getElem?_eq_getElem hkm⟩
  have hd:decide ((k:Int) < (rs.length:Int))=true:=by simp; omega
  rw [hd,zaI,zaa (by omega),zap (by simpa using zc7 hx),zdi,zFx,zab,zbo]
  by_cases hf:x.2.length=32
  ·simp only [hf,decide_true,Bool.not_true,zas,zam]
   rw [zav (by omega) (by omega)]
   refine hag _ ⟨k+1,by omega,?_,rfl⟩ (by simp; omega)
   rw [List.take_add_one,hx,List.all_append,he];simp [hf]
  ·simp only [hf,decide_false,Bool.not_false,zaI];refine ⟨_,rfl,_,rfl,?_⟩
   have:(rs.all fun x=>decide (x.2.length=32))=false:=by
    rw [List.all_eq_false]
    exact ⟨x,List.mem_of_getElem? hx,by simp [hf]⟩
   rw [this];simp
 ·have hd:decide ((k:Int) < (rs.length:Int))=false:=by simp; omega
  rw [hd,zas];refine ⟨_,rfl,_,rfl,?_⟩
  rw [List.take_of_length_le (by omega)] at he
  rw [he];rfl
theorem row_sectors (tg:Tag) (ps:List Part) (hn:ps.length < 100000):zcm [.sl tg (pL ps)]=some (.bool (ps.all fun x=>decide (x.2.length=32))):=by
 rw [zqU,zdb]
 have hm:(ps.all fun x=>decide (x.2.length=32))=((ps.map fun x=>(zbT x.1 x.2,x.2)).all fun x=>decide (x.2.length=32)):=by rw [List.all_map]; rfl
 have hlen:(ps.map fun x=>(zbT x.1 x.2,x.2)).length=ps.length:=by simp
 rw [hm];rw [←hlen] at hn
 generalize (ps.map fun x=>(zbT x.1 x.2,x.2))=rs at*
 unfold zjZ
 have:zaf [.sl .lent (pL rs),.fn ID.row_sectors_1 [] []]=some (.bool (!(rs.all fun x=>decide (x.2.length=32)))):=by
  rw [zd3,zdb]
  have hm:(rs.all fun x=>decide (x.2.length=32))=((rs.map fun x=>(zbT x.1 x.2,x.2)).all fun x=>decide (x.2.length=32)):=by rw [List.all_map]; rfl
  have hlen:(rs.map fun x=>(zbT x.1 x.2,x.2)).length=rs.length:=by simp
  rw [hm];rw [←hlen] at hn
  generalize (rs.map fun x=>(zbT x.1 x.2,x.2))=qs at*
  unfold zb0;obtain ⟨r,h1,i,rfl,h2⟩:=zp4 .lent qs hn;rw [h1,zab,zaR,h2]
 rw [this,zab,zbo,Bool.not_not]
theorem zFy (g:Geo) (row:Int) (tg:Tag) {ps:List Part} (hn:ps.length < 100000):
  zdB [.agg [.int .i64 g.l,.int .i64 g.d,.int .i64 g.c],.int .i64 row,.sl tg (pL ps)]=some (solD (zxY g row (ps.map (·.2)))):=by
 rw [zwl,zdb]
 have hlen:(ps.map fun x=>(zbT x.1 x.2,x.2)).length=ps.length:=by simp
 have hm:(ps.map fun x=>(zbT x.1 x.2,x.2)).map (·.2)=ps.map (·.2):=by rw [List.map_map]; rfl
 rw [←hlen] at hn;rw [←hm]
 generalize (ps.map fun x=>(zbT x.1 x.2,x.2))=rs at*
 clear hm hlen ps;unfold zpR zxY;cases h:zcI g row
 ·simp [znH,h,solD]
 by_cases hl:(rs.length:Int)=g.width
 ·have hall:((rs.map (·.2)).all fun x=>decide (x.length=32))=(rs.all fun x=>decide (x.2.length=32)):=by rw [List.all_map]; rfl
  rw [hall]
  cases hs:(rs.all fun x=>decide (x.2.length=32))
  ·simp [znH,h,solD,zl4,hl,row_sectors _ _ hn,hs]
  ·have hl':∀ x∈rs,x.2.length=32:=fun x hx=>by rw [List.all_eq_true] at hs; simpa using hs x hx
   rw [if_pos ⟨rfl,by simp [hl],rfl⟩]
   obtain ⟨hk,r0,r1⟩:=zbJ.1 h;have hw:=zca hk;have hdd:=ok_d hk
   have hb:((((pL rs).length:Nat):Int) != g.width)=false:=by simp [hl]
   have hrl:rs.length=g.width.toNat:=by omega
   rw [znH,zab,zbo,h,Bool.not_true,zas,zl4,zab,zaR,hb,zas,row_sectors _ _ hn,zab,zbo,hs,Bool.not_true,zas,zaa (by omega),zaa (by rfl),zaa (by omega),zaa (by omega),zaa (by simp)]
   let st:Nat→(Int×List D×(Int×Int×Int×PUnit)×List D×List D×Int×Int×PUnit)×PUnit:=fun k=>((row,pL rs,(g.l,g.d,g.c,PUnit.unit),pL (zhS g row (rs.map (·.2)) k),pL rs,((pL rs).length:Int),(k:Int),PUnit.unit),PUnit.unit)
   have hst:st 0=((row,pL rs,(g.l,g.d,g.c,PUnit.unit),List.replicate g.d.toNat (D.sl .nil []),pL rs,((pL rs).length:Int),0,PUnit.unit),PUnit.unit):=by
    simp only [st,zhS,zAN]; rfl
   rw [←hst]
   refine zcp st rs.length (by omega) ?_ ?_
   ·intro again k hk';dsimp only [st];obtain ⟨x,hx⟩:∃ x,rs[k]? =some x:=⟨_,List.getElem?_eq_getElem hk'⟩;have hxs:=hl' x (List.mem_of_getElem? hx)
    have hxe:rs[k]=x:=by rw [List.getElem?_eq_getElem hk'] at hx; exact Option.some.inj hx
    have hdi:=zht h (k:=(k:Int)) (by omega) (by omega)
    have hfl:=zfS g row (rs.map (·.2)) k
    obtain ⟨y,hy⟩:∃ y,(zhS g row (rs.map (·.2)) k)[(zcO g row (k:Int)).toNat]? =some y:=⟨_,List.getElem?_eq_getElem (by omega)⟩
    have hgd:(rs.map (·.2)).getD k []=x.2:=by simp [List.getD_eq_getElem?_getD,hx]
    have hgx:(pL rs)[k]? =some (.sl x.1 (uL x.2)):=zc7 hx
    have hlt:(zcO g row (k:Int)).toNat < g.d.toNat:=by omega
    simp (disch:=first | omega | assumption | (simp; done) | fail) [-List.all_eq_true,hk',zap hgx,zsT,znG (show x.2.length≤4294967296 by omega),hdi.1,hfl,hlt,zap (zc7 hy),zj6,zav,zo3,zhS]
    rw [hxe]
   ·intro again;dsimp only [st];obtain ⟨p0,p1,p2⟩:=zk4 h
    have hfl:=zfS g row (rs.map (·.2)) rs.length
    obtain ⟨y,hy⟩:∃ y,(zhS g row (rs.map (·.2)) rs.length)[(parP g row).1.toNat]? =some y:=⟨_,List.getElem?_eq_getElem (by omega)⟩
    have hrp:=zDL (n:=32) .lent (ps:=rs) (by omega) (by omega) (by omega) hl'
    have hrq:=zDM (n:=32) .lent (ps:=rs) (by omega) (by omega) (by omega) hl'
    have hff:=zuR h (rs.map (·.2)) (sumP 32 (rs.map (·.2))) (sumQ 32 (rs.map (·.2))) rfl (.inl rfl)
    have hfree:=zrb (zuQ g row (rs.map (·.2)) rs.length) (parP g row).1.toNat (sumP 32 (rs.map (·.2)))
    have hfree2:=zrb hfree (parP g row).2.toNat (sumQ 32 (rs.map (·.2)))
    have hlt:(parP g row).1.toNat < g.d.toNat:=by omega
    unfold zBG at hff;rw [←hrl] at hff;rcases p2 with ⟨p2,_⟩ | ⟨q0,q1,_⟩
    ·rw [if_pos (by omega)] at hff
     have hq:¬ (0≤(parP g row).2):=by omega
     simp (disch:=first | omega | assumption | (simp; done) | fail) [-List.all_eq_true,zjn,hrp,p0,hfl,hlt,zap (zc7 hy),zj6,hq,zo3,zlH hfree,solD,hff,zgn]
    ·rw [if_neg (by omega)] at hff
     have hlt2:(parP g row).2.toNat < g.d.toNat:=by omega
     obtain ⟨z,hz⟩:∃ z,((zhS g row (rs.map (·.2)) rs.length).set (parP g row).1.toNat (Tag.fresh,sumP 32 (rs.map (·.2))))[(parP g row).2.toNat]? =some z:=⟨_,List.getElem?_eq_getElem (by simp [hfl]; omega)⟩
     simp (disch:=first | omega | assumption | (simp; done) | fail) [-List.all_eq_true,zjn,hrp,hrq,p0,q0,hfl,hlt,hlt2,zap (zc7 hy),zap (zc7 hz),zj6,zo3,zlH hfree,zlH hfree2,solD,hff,zgn]
 ·have h2:¬ (true=true∧(((rs.map (·.2)).length:Nat):Int)=g.width∧((rs.map (·.2)).all fun x=>decide (x.length=32))=true):=by rintro ⟨_,e,_⟩; simp at e; exact hl e
  rw [if_neg h2];simp [znH,h,solD,zl4,hl]
end Wf

namespace Wf
open Go Go.RowKit Go.Proofs
set_option linter.unusedSimpArgs false
set_option linter.unusedVariables false
set_option maxHeartbeats 4000000
def zgq (g:Geo) (row:Int) (rs:List Part) (k:Nat):List Part:=(List.range k).map fun (j:Nat)=>rs.getD (zcO g row (j:Int)).toNat (.nil,[])
theorem zyt (g:Geo) (row:Int) (rs:List Part):(zgq g row rs g.width.toNat).map (·.2)=zgH g row (rs.map (·.2)):=by
 unfold zgq zgH;rw [List.map_map];apply List.map_congr_left;intro j _;simp [List.getD_eq_getElem?_getD];cases rs[(zcO g row (j:Int)).toNat]? <;>rfl
theorem zwC (g:Geo) (row:Int) (rs:List Part) {k:Nat} {x:Part} (h:rs[(zcO g row (k:Int)).toNat]? =some x):zgq g row rs (k+1)=zgq g row rs k++[x]:=by
 unfold zgq;rw [List.range_succ,List.map_append];simp [List.getD_eq_getElem?_getD,h]
theorem zyu {R:Type} (a b:D) (f:LfT [.any,.any]→Option R):zaz [.any,.any] [a,b] f=f (a,b,()):=by rw [zcB,zcB,zcr]
theorem zFz (g:Geo) (row:Int) (tg:Tag) {ps:List Part} (hn:ps.length < 100000):
  zdA [.agg [.int .i64 g.l,.int .i64 g.d,.int .i64 g.c],.int .i64 row,.sl tg (pL ps)]=some (solD (ztd g row (ps.map (·.2)))):=by
 rw [zwh,zdb]
 have hm:(ps.map fun x=>(zbT x.1 x.2,x.2)).map (·.2)=ps.map (·.2):=by rw [List.map_map]; rfl
 have hlen:(ps.map fun x=>(zbT x.1 x.2,x.2)).length=ps.length:=by simp
 rw [←hm];rw [←hlen] at hn
 generalize (ps.map fun x=>(zbT x.1 x.2,x.2))=rs at*
 clear hm hlen ps;unfold zpM ztd;cases h:zcI g row
 ·simp [znH,h,solD]
 by_cases hl:(rs.length:Int)=g.d
 ·rw [if_pos ⟨rfl,by simp [hl]⟩]
  have hk:=(zbJ.1 h).1;have hw:=zca hk;have hdd:=ok_d hk
  have hb:((((pL rs).length:Nat):Int) != g.d)=false:=by simp [hl]
  rw [znH,zab,zbo,h,Bool.not_true,zas,hb,zas,zl4,zab,zaR]
  let st:Nat→(Int×List D×(Int×Int×Int×PUnit)×List D×Int×Int×PUnit)×PUnit:=fun k=>((row,pL rs,(g.l,g.d,g.c,PUnit.unit),pL (zgq g row rs k),g.width,(k:Int),PUnit.unit),PUnit.unit)
  have hst:st 0=((row,pL rs,(g.l,g.d,g.c,PUnit.unit),[],g.width,0,PUnit.unit),PUnit.unit):=rfl;rw [←hst]
  refine zcp st g.width.toNat (by omega) ?_ ?_
  ·intro again k hk';dsimp only [st]
   have hd:(k:Int) < g.width:=by omega
   have hdi:=zht h (k:=(k:Int)) (by omega) (by omega)
   obtain ⟨x,hx⟩:∃ x,rs[(zcO g row (k:Int)).toNat]? =some x:=⟨_,List.getElem?_eq_getElem (by omega)⟩
   have hpl:(zgq g row rs k).length=k:=by simp [zgq]
   simp (disch:=first | omega | assumption | (simp; done) | fail) [-List.all_eq_true,hd,zsT,hdi.1,zap (zc7 hx),hpl,zav,zDK,zwC g row rs hx]
  ·intro again;dsimp only [st]
   have hd:¬ ((g.width.toNat:Nat):Int) < g.width:=by omega
   obtain ⟨p0,p1,p2⟩:=zk4 h
   obtain ⟨xp,hxp⟩:∃ x,rs[(parP g row).1.toNat]? =some x:=⟨_,List.getElem?_eq_getElem (by omega)⟩
   have hpo:pOf g row (rs.map (·.2))=xp.2:=by unfold pOf; simp [List.getD_eq_getElem?_getD,hxp]
   have hrl:(zgq g row rs g.width.toNat).length < 100000:=by simp [zgq]; omega
   have hsol:=fun tq q=>zFu xp.1 tq .lent xp.2 q hrl
   rw [zyt] at hsol;rw [hpo];rcases p2 with ⟨p2,_⟩ | ⟨q0,q1,_⟩
   ·have hqo:qOf g row (rs.map (·.2))=[]:=by unfold qOf; rw [if_pos (by omega)]
    have hq:(parP g row).2 < 0:=by omega
    have hs:=hsol .nil []
    rw [show uL []=([]:List D) from rfl] at hs
    rw [hqo]
    simp (disch:=first | omega | assumption | (simp; done) | fail) [-List.all_eq_true,zlG,hd,zjn,hq,p0,zap (zc7 hxp),hs]
    cases zk0 xp.2 [] (zgH g row (rs.map (·.2)))<;>simp [-List.all_eq_true,solD,zgn]
   ·obtain ⟨xq,hxq⟩:∃ x,rs[(parP g row).2.toNat]? =some x:=⟨_,List.getElem?_eq_getElem (by omega)⟩
    have hqo:qOf g row (rs.map (·.2))=xq.2:=by unfold qOf; rw [if_neg (by omega)]; simp [List.getD_eq_getElem?_getD,hxq]
    have hq:¬ (parP g row).2 < 0:=by omega
    rw [hqo]
    simp (disch:=first | omega | assumption | (simp; done) | fail) [-List.all_eq_true,zlG,hd,zjn,hq,p0,q0,zap (zc7 hxp),zap (zc7 hxq),hsol]
    cases zk0 xp.2 xq.2 (zgH g row (rs.map (·.2)))<;>simp [-List.all_eq_true,solD,zgn]
 ·have h2:¬ (true=true∧(((rs.map (·.2)).length:Nat):Int)=g.d):=by rintro ⟨_,e⟩; simp at e; exact hl e
  rw [if_neg h2];simp [znH,h,solD,hl]
theorem zFA (g:Geo) (row:Int) (tg:Tag) {ps:List Part} (hn:ps.length < 100000) (hs:∀ x∈ps,Sec x.2):
  zbu [.agg [.int .i64 g.l,.int .i64 g.d,.int .i64 g.c],.int .i64 row,.sl tg (pL ps)]=some (solD (zxY g row (ps.map (·.2)))):=by
 rw [zld,zdb]
 have hlen:(ps.map fun x=>(zbT x.1 x.2,x.2)).length=ps.length:=by simp
 have hm:(ps.map fun x=>(zbT x.1 x.2,x.2)).map (·.2)=ps.map (·.2):=by rw [List.map_map]; rfl
 have hs':∀ x∈(ps.map fun x=>(zbT x.1 x.2,x.2)),Sec x.2:=by intro x hx; obtain ⟨y,hy,rfl⟩:=List.mem_map.1 hx; exact hs y hy
 rw [←hlen] at hn;rw [←hm]
 generalize (ps.map fun x=>(zbT x.1 x.2,x.2))=rs at*
 clear hm hlen hs ps;unfold zfK zxY
 have hsl:∀ x∈rs.map (·.2),Sec x:=by intro x hx; obtain ⟨y,hy,rfl⟩:=List.mem_map.1 hx; exact hs' y hy
 have hl':∀ x∈rs,x.2.length=32:=fun x hx=>(hs' x hx).len
 have hall:((rs.map (·.2)).all fun x=>decide (x.length=32))=true:=by rw [List.all_eq_true]; intro x hx; simpa using (hsl x hx).len
 cases h:zcI g row
 ·simp [zsU,h,solD]
 by_cases hl:(rs.length:Int)=g.width
 ·rw [if_pos ⟨rfl,by simp [hl],hall⟩]
  obtain ⟨hk,r0,r1⟩:=zbJ.1 h;have hw:=zca hk;have hdd:=ok_d hk
  have hb:((((pL rs).length:Nat):Int) != g.width)=false:=by simp [hl]
  have hrl:rs.length=g.width.toNat:=by omega
  rw [zsU,zab,zbo,h,Bool.not_true,zas,zl5,zab,zaR,hb,zas,zaa (by omega),zaa (by rfl),zaa (by omega),zaa (by omega),zaa (by simp)]
  let st:Nat→(Int×List D×(Int×Int×Int×PUnit)×List D×List D×Int×Int×PUnit)×PUnit:=fun k=>((row,pL rs,(g.l,g.d,g.c,PUnit.unit),pL (zhS g row (rs.map (·.2)) k),pL rs,((pL rs).length:Int),(k:Int),PUnit.unit),PUnit.unit)
  have hst:st 0=((row,pL rs,(g.l,g.d,g.c,PUnit.unit),List.replicate g.d.toNat (D.sl .nil []),pL rs,((pL rs).length:Int),0,PUnit.unit),PUnit.unit):=by
   simp only [st,zhS,zAN]; rfl
  rw [←hst]
  refine zcp st rs.length (by omega) ?_ ?_
  ·intro again k hk';dsimp only [st];obtain ⟨x,hx⟩:∃ x,rs[k]? =some x:=⟨_,List.getElem?_eq_getElem hk'⟩;have hxs:=hl' x (List.mem_of_getElem? hx)
   have hxe:rs[k]=x:=by rw [List.getElem?_eq_getElem hk'] at hx; exact Option.some.inj hx
   have hdi:=zht h (k:=(k:Int)) (by omega) (by omega)
   have hfl:=zfS g row (rs.map (·.2)) k
   obtain ⟨y,hy⟩:∃ y,(zhS g row (rs.map (·.2)) k)[(zcO g row (k:Int)).toNat]? =some y:=⟨_,List.getElem?_eq_getElem (by omega)⟩
   have hgd:(rs.map (·.2)).getD k []=x.2:=by simp [List.getD_eq_getElem?_getD,hx]
   have hgx:(pL rs)[k]? =some (.sl x.1 (uL x.2)):=zc7 hx
   have hlt:(zcO g row (k:Int)).toNat < g.d.toNat:=by omega
   simp (disch:=first | omega | assumption | (simp; done) | fail) [-List.all_eq_true,hk',zap hgx,zDS,hxs,hdi.1,hfl,hlt,zap (zc7 hy),zj6,zav,zo3,zhS]
   rw [hxe]
  ·intro again;dsimp only [st];obtain ⟨p0,p1,p2⟩:=zk4 h
   have hfl:=zfS g row (rs.map (·.2)) rs.length
   obtain ⟨y,hy⟩:∃ y,(zhS g row (rs.map (·.2)) rs.length)[(parP g row).1.toNat]? =some y:=⟨_,List.getElem?_eq_getElem (by omega)⟩
   have hrp:=zJH (n:=32) .lent (ps:=rs) (by omega) (by omega) (by omega) hl'
   have hrq:=zJI (n:=32) .lent (ps:=rs) (by omega) (by omega) (by omega) hl'
   rw [zFv hsl] at hrp
   rw [zFw hsl (by simp; omega)] at hrq
   have hff:=zuR h (rs.map (·.2)) (sumP 32 (rs.map (·.2))) (sumQ 32 (rs.map (·.2))) rfl (.inl rfl)
   have hfree:=zrb (zuQ g row (rs.map (·.2)) rs.length) (parP g row).1.toNat (sumP 32 (rs.map (·.2)))
   have hfree2:=zrb hfree (parP g row).2.toNat (sumQ 32 (rs.map (·.2)))
   have hlt:(parP g row).1.toNat < g.d.toNat:=by omega
   unfold zBG at hff;rw [←hrl] at hff;rcases p2 with ⟨p2,_⟩ | ⟨q0,q1,_⟩
   ·rw [if_pos (by omega)] at hff
    have hq:¬ (0≤(parP g row).2):=by omega
    simp (disch:=first | omega | assumption | (simp; done) | fail) [-List.all_eq_true,zAM,hrp,p0,hfl,hlt,zap (zc7 hy),zj6,hq,zo3,zlH hfree,solD,hff,zgn]
   ·rw [if_neg (by omega)] at hff
    have hlt2:(parP g row).2.toNat < g.d.toNat:=by omega
    obtain ⟨z,hz⟩:∃ z,((zhS g row (rs.map (·.2)) rs.length).set (parP g row).1.toNat (Tag.fresh,sumP 32 (rs.map (·.2))))[(parP g row).2.toNat]? =some z:=⟨_,List.getElem?_eq_getElem (by simp [hfl]; omega)⟩
    simp (disch:=first | omega | assumption | (simp; done) | fail) [-List.all_eq_true,zAM,hrp,hrq,p0,q0,hfl,hlt,hlt2,zap (zc7 hy),zap (zc7 hz),zj6,zo3,zlH hfree,zlH hfree2,solD,hff,zgn]
 ·have h2:¬ (true=true∧(((rs.map (·.2)).length:Nat):Int)=g.width∧((rs.map (·.2)).all fun x=>decide (x.length=32))=true):=by rintro ⟨_,e,_⟩; simp at e; exact hl e
  rw [if_neg h2];simp [zsU,h,solD,zl5,hl]
end Wf

namespace Wf
open Go Go.RowKit Go.Proofs
set_option linter.unusedSimpArgs false
set_option linter.unusedVariables false
set_option maxHeartbeats 4000000
theorem zeN (live:List Bool):D.lentL (live.map D.bool)=live.map D.bool:=by
 induction live with
 | nil=>rfl
 | cons x l ih=>simp [ih]
theorem zlI (acts:Nat→List Act):∀ (n k:Nat) (B:Ben),runE (fun k B=>runA (acts k) B) k n B=runA ((List.range' k n).flatMap acts) B
 | 0,k,B=>rfl
 | n+1,k,B=>by
  rw [List.range'_succ,List.flatMap_cons,zjB]
  show (if (runA (acts k) B).1=0 then _ else _)=_
  rw [zlI acts n (k+1)]
theorem zl6 (a:Act) (B:Ben):runA [a] B=B.act a:=by
 rw [zk2]
 by_cases h:(B.act a).1=0
 ·rw [if_pos h];show (0,(B.act a).2)=B.act a;rw [←h]
 ·rw [if_neg h]
section
variable {B:Ben} {d a e:Int} {x:List Int}
theorem zsV {s:DS} (hd:B.is d=true) (hf:s.failed=(B.dk d).failed):(B.setD d s).failed e=B.failed e:=by
 unfold Ben.failed;rw [zDg];cases he:B.is e
 ·rfl
 ·rw [zk1 hd (zfE.1 he).1];split
  ·rename_i q; subst q; rw [hf]
  ·rfl
theorem zp5 (B:Ben) (d a:Int) (x:List Int):(B.write d a x).2.n=B.n∧∀ e,(B.write d a x).2.failed e=B.failed e:=by
 unfold Ben.write;split
 ·exact ⟨rfl,fun _=>rfl⟩
 ·rename_i h0;have hd:=(may0.1 (Classical.not_not.1 h0)).1;split
  ·exact ⟨rfl,fun _=>rfl⟩
  ·split
   ·exact ⟨rfl,fun _=>rfl⟩
   ·exact ⟨by simp,fun e=>zsV (B:=(B.junk _).less) hd rfl⟩
theorem zuS (hB:B.Ok) (d:Int):(B.flush d).2.n=B.n∧∀ e,(B.flush d).2.failed e=B.failed e:=by
 unfold Ben.flush;split
 ·exact ⟨rfl,fun _=>rfl⟩
 ·rename_i h0;have hd:=(may0.1 (Classical.not_not.1 h0)).1
  refine ⟨by simp,fun e=>zsV hd ?_⟩
  unfold DS.flush;split
  ·rfl
  ·exact zmH (zps hB d).1
def Like (B B':Ben):Prop:=B'.n=B.n∧∀ e,B'.failed e=B.failed e
theorem Like.refl (B:Ben):Like B B:=⟨rfl,fun _=>rfl⟩
theorem Like.trans {A B C:Ben} (h1:Like A B) (h2:Like B C):Like A C:=⟨h2.1.trans h1.1,fun e=>(h2.2 e).trans (h1.2 e)⟩
theorem Like.up {B B':Ben} (h:Like B B') (live:List Bool) (e:Int):B'.up live e=B.up live e:=by unfold Ben.up; rw [h.1,h.2]
theorem zyv {B:Ben} {live:List Bool} {d:Int} (h:B.up live d=true):d < B.n:=by
 unfold Ben.up at h;simp only [Bool.and_eq_true,decide_eq_true_eq] at h;exact h.1
end
section
variable {T0 T1:Tb} {b:Nat} {idx:List Nat} {B:Ben}
end
end Wf

namespace Wf
open Go Go.RowKit Go.Proofs
set_option linter.unusedSimpArgs false
set_option linter.unusedVariables false
set_option maxHeartbeats 4000000
theorem zDU {p q:List Int} {ls o:List (List Int)} (h:zk0 p q ls=some o):o.length=ls.length:=by
 unfold zk0 at h;split at h
 ·cases h
 split at h
 ·cases h
 split at h
 ·cases h; simp [zdj]
 ·split at h
  ·cases h; simp [zdj]
  ·cases h; simp [zdj]
 ·cases h; simp [zdj]
theorem zFB {g:Geo} {r:Int} {ls o:List (List Int)} (h:ztd g r ls=some o):o.length=g.width.toNat:=by
 unfold ztd at h;split at h
 ·rw [zDU h]; simp [zgH]
 ·cases h
theorem zHy {g:Geo} {r j k:Int} (h:zcI g r=true) (j0:0≤j) (j1:j < g.width) (k0:0≤k) (k1:k < g.width) (e:numP g r j=numP g r k):j=k:=by
 have h1:=zGg h j0 j1;have h2:=zGg h k0 k1;rw [e,h2] at h1;injection h1 with h1 _;exact zsb h j0 j1 k0 k1 h1.symm
section
variable {T0 T1:Tb} {b:Nat} {idx:List Nat} {B:Ben}
theorem zHz {live:List Bool} {d a:Int} (hdn:B.down=false) (d0:0≤d) (hu:B.up live d=true) (a0:0≤a) (a1:a < 52):B.read d a=(B.cur d a,0):=by
 obtain ⟨h1,h2,_⟩:=zHm d0 hu;rw [zhs h1] at h2;unfold Ben.read
 rw [if_neg (by rw [may0.2 ⟨h1,hdn⟩]; simp)]
 unfold DS.read
 rw [if_neg (by rw [zpr.2 ⟨h2,a0,a1⟩]; simp)]
 rfl
theorem zDV {live:List Bool} {d:Int} (a:Int) (hdn:B.down=true) (d0:0≤d) (hu:B.up live d=true):B.read d a=([],6):=by
 obtain ⟨h1,h2,_⟩:=zHm d0 hu
 have hm:B.may d=6:=by unfold Ben.may; rw [h1,hdn]; rfl
 unfold Ben.read;rw [hm]; simp
def Ben.secP (B:Ben) (live:List Bool) (r:Int) (n k:Nat):List Part:=(List.range n).map fun (d:Nat)=>if d < k then (if B.up live d then (Tag.fresh,B.cur d (36+r)) else (Tag.nil,[])) else (Tag.nil,[])
theorem zFC (live:List Bool) (r:Int) (n:Nat):(B.secP live r n n).map (·.2)=B.secs live r n:=by
 unfold Ben.secP Ben.secs;rw [List.map_map];apply List.map_congr_left;intro d hd;have:=List.mem_range.1 hd;simp only [Function.comp_apply,if_pos this];split<;>rfl
@[simp] theorem zwD (live:List Bool) (r:Int) (n k:Nat):(B.secP live r n k).length=n:=by simp [Ben.secP]
theorem zDW (live:List Bool) (r:Int) {n k:Nat} (hk:k < n) (hu:B.up live k=true):(B.secP live r n k).set k (Tag.fresh,B.cur k (36+r))=B.secP live r n (k+1):=by
 apply List.ext_getElem?;intro j;rw [List.getElem?_set];unfold Ben.secP
 by_cases hj:j < n
 ·by_cases hjk:k=j
  ·subst hjk; simp [hj,hu]
  ·rw [if_neg hjk];simp only [List.getElem?_map,List.getElem?_range hj,Option.map_some]
   by_cases h1:j < k
   ·simp only [if_pos h1,if_pos (show j < k+1 by omega)]
   ·simp only [if_neg h1,if_neg (show ¬ j < k+1 by omega)]
 ·have h1:k≠j:=by omega
  rw [if_neg h1,List.getElem?_eq_none (by simp; omega),List.getElem?_eq_none (by simp; omega)]
theorem zDX (live:List Bool) (r:Int) {n k:Nat} (hk:k < n) (hu:B.up live k=false):B.secP live r n k=B.secP live r n (k+1):=by
 unfold Ben.secP;apply List.map_congr_left;intro j hj
 by_cases h1:j < k
 ·simp only [if_pos h1,if_pos (show j < k+1 by omega)]
 ·by_cases hjk:j=k
  ·subst hjk; simp [hu]
  ·simp only [if_neg h1,if_neg (show ¬ j < k+1 by omega)]
theorem zDY (live:List Bool) (r:Int) (n:Nat):pL (B.secP live r n 0)=List.replicate n (D.sl .nil []):=by
 unfold Ben.secP pL;rw [List.map_map];apply List.ext_getElem?;intro j
 by_cases hj:j < n
 ·simp [hj,uL]
 ·rw [List.getElem?_eq_none (by simp; omega),List.getElem?_eq_none (by simp; omega)]
theorem zHA (live:List Bool) (r:Int) {n k:Nat} (hk:k < n):(B.secP live r n k)[k]? =some (Tag.nil,[]):=by unfold Ben.secP; simp [hk]
theorem zsW (h:At T0 T1 b idx B) (hw:B.w≤1000000) (tg:Tag) (live:List Bool) (g:Geo) (r:Int):
  zcc [.h kB b 0,.sl tg (live.map D.bool),.agg [.int .i64 g.l,.int .i64 g.d,.int .i64 g.c],.int .i64 r] [P0 T0 b idx B,P1 T1 idx B]=
   some (Ans.mk (.tup [.sl .own (pL (fP (B.sRead live g r).1)),.int .i64 (B.sRead live g r).2]) [] []):=by
 rw [zqS,zeN];unfold zjY Ben.sRead
 have hck:zaC [.agg [.int .i64 g.l,.int .i64 g.d,.int .i64 g.c]]=some (.int .i64 (if g.ok then 0 else 1)):=zjl g.l g.d g.c
 cases hk:g.ok
 ·have hf:zcI g r=false:=by unfold zcI; rw [hk]; rfl
  rw [hk] at hck;simp [hck,hf]; rfl
 rw [hk] at hck
 by_cases r0:r < 0
 ·have hf:zcI g r=false:=by unfold zcI; rw [hk]; simp; omega
  simp [hck,hf,r0]; rfl
 by_cases r1:r≥16
 ·have hf:zcI g r=false:=by unfold zcI; rw [hk]; simp; omega
  simp [hck,hf,r0,show 16≤r by omega]; rfl
 have hr:zcI g r=true:=zbJ.2 ⟨hk,by omega,by omega⟩
 have hdd:=ok_d hk
 rw [if_neg (by simp [hr])]
 have r1':¬ 16≤r:=by omega
 simp (disch:=first | omega | assumption | (simp; done) | fail) only [hck,if_true,zab,zaR,zfX,zgG,zaa,List.length_replicate,Nat.zero_add,Nat.le_refl]
 let st:Nat→(Nat×List D×Int×(Int×Int×Int×PUnit)×List D×Int×Int×PUnit)×List (List D)×List (List D)×PUnit:=fun k=>
  ((b,live.map D.bool,r,(g.l,g.d,g.c,PUnit.unit),pL (B.secP live r g.d.toNat k),((g.d.toNat:Nat):Int),(k:Int),PUnit.unit),P0 T0 b idx B,P1 T1 idx B,PUnit.unit)
 have hst:st 0=((b,live.map D.bool,r,(g.l,g.d,g.c,PUnit.unit),List.replicate g.d.toNat (D.sl .nil []),((g.d.toNat:Nat):Int),0,PUnit.unit),P0 T0 b idx B,P1 T1 idx B,PUnit.unit):=by
  simp only [st,zDY]; rfl
 rw [←hst]
 refine zgb (fun x=>g.d.toNat - x.1.2.2.2.2.2.2.1.toNat) (fun _=>_) (fun x=>∃ k:Nat,k≤g.d.toNat∧(B.down=true→∀ j:Nat,j < k→B.up live j=false)∧x=st k) ?_ ⟨0,by omega,fun _ j hj=>by omega,rfl⟩ (by simp [st]; omega)
 rintro again _ ⟨k,hk',hdn,rfl⟩ hag
 dsimp only [st]
 by_cases hlt:k < g.d.toNat
 ·have hup:=zJF h .lent live (d:=(k:Int)) (by omega)
  by_cases hu:B.up live (k:Int)=true
  ·rw [hu] at hup;cases hdo:B.down
   ·have hrd:=zDH h hw (k:Int) (36+r)
    rw [zHz hdo (by omega) hu (by omega) (by omega)] at hrd
    have hg:=zHA (B:=B) live r hlt
    have:=hag (st (k+1)) ⟨k+1,by omega,fun e=>(by rw [hdo] at e; cases e),rfl⟩ (by simp [st]; omega)
    dsimp only [st] at this;rw [←zDW live r hlt hu] at this
    simp (disch:=first | omega | assumption | (simp; done) | fail) [hlt,hup,hrd,zav,zwD,zap (zc7 hg),zj6,zo3]
    rw [show ((k+1:Nat):Int)=(k:Int)+1 by omega] at this
    simpa [hdo] using this
   ·have hrd:=zDH h hw (k:Int) (36+r)
    rw [zDV (36+r) hdo (by omega) hu] at hrd
    have hany:(List.range g.d.toNat).any (fun (d:Nat)=>B.up live d)=true:=by
     rw [List.any_eq_true]; exact ⟨k,List.mem_range.2 hlt,hu⟩
    rw [hany]
    simp (disch:=first | omega | assumption | (simp; done) | fail) [hlt,hup,hrd,zav]
    rfl
  ·have hu':B.up live (k:Int)=false:=by simpa using hu
   rw [hu'] at hup
   have:=hag (st (k+1)) ⟨k+1,by omega,fun e j hj=>by
    by_cases ej:j=k
    ·subst ej; exact hu'
    ·exact hdn e j (by omega),rfl⟩ (by simp [st]; omega)
   dsimp only [st] at this;rw [←zDX live r hlt hu'] at this
   rw [show ((k+1:Nat):Int)=(k:Int)+1 by omega] at this
   simp (disch:=first | omega | assumption | (simp; done) | fail) [hlt,hup,zav]
   simpa using this
 ·have hke:k=g.d.toNat:=by omega
  have hno:¬ (B.down=true∧(List.range g.d.toNat).any (fun (d:Nat)=>B.up live d)=true):=by
   rintro ⟨e1,e2⟩
   rw [List.any_eq_true] at e2;obtain ⟨j,hj,hu⟩:=e2
   rw [hdn e1 j (by rw [hke]; exact List.mem_range.1 hj)] at hu; cases hu
  rw [if_neg hno]
  have htk:=zFz g r .lent (ps:=B.secP live r g.d.toNat g.d.toNat) (by rw [zwD]; omega)
  rw [zFC] at htk;subst hke
  simp (disch:=first | omega | assumption | (simp; done) | fail) [-List.all_eq_true,zlG,zwD,htk]
  cases ztd g r (B.secs live r g.d.toNat) with
  | none=>simp [-List.all_eq_true,solD]; rfl
  | some o=>simp [-List.all_eq_true,solD,zgn]
end
end Wf

namespace Wf
open Go Go.RowKit Go.Proofs
set_option linter.unusedSimpArgs false
set_option linter.unusedVariables false
set_option maxHeartbeats 4000000
def zzL (w left:Int) (down:Bool) (hs:List D):List D:=[.int .i64 w,.int .i64 left,.bool down,.sl .own hs]
theorem zzM (m k:Nat):((List.range k).map fun j=>hD (m+j))++[hD (m+k)]=(List.range (k+1)).map fun j=>hD (m+j):=by simp [List.range_succ]
theorem zBH (l:List Nat):zdh (l.map hD)=true:=by simp only [zdh,List.all_map,List.all_eq_true]; intro i _; rfl
theorem zDZ (l:List Nat):zgu 1 (l.map hD)=true:=by simp only [zgu,List.all_map,List.all_eq_true]; intro i _; rfl
theorem ztL {α:Type} (k:Nat) (a:α):List.replicate k a++[a]=List.replicate (k+1) a:=by
 rw [List.replicate_succ']
theorem zFD (T0 T1:Tb) {n:Int} (h0:1≤n) (h1:n≤8):
  zbx [.int .i64 n] [T0,T1]=some (Ans.mk (.tup [.h kB T0.length 0,.int .i64 0]) []
   [T0++[zzL 0 (-1) false ((List.range n.toNat).map fun j=>hD (T1.length+j))],T1++List.replicate n.toNat DS.new.cells]):=by
 rw [ztf];unfold zm9
 have d1:decide (n < 1)=false:=by simp; omega
 have d2:decide (n > 8)=false:=by simp; omega
 rw [d1,zas,d2,zas,zrY]
 have hn:n=(n.toNat:Int):=by omega
 let st:Nat→(Nat×Int×Int×PUnit)×List (List D)×List (List D)×PUnit:=fun k=>
  ((T0.length,n,(k:Int),PUnit.unit),T0++[zzL 0 (-1) false ((List.range k).map fun j=>hD (T1.length+j))],T1++List.replicate k DS.new.cells,PUnit.unit)
 have h00:st 0=((T0.length,n,0,PUnit.unit),T0++[[D.own0 (D.int IntKind.i64 (0:Int)),D.own0 (D.int IntKind.i64 (-1:Int)),D.own0 (D.bool false),D.own0 (D.sl Tag.nil [])]],T1,PUnit.unit):=by
  simp [st,zzL,D.own0]
 rw [←h00]
 refine zcj st n.toNat (by omega) ?_ ?_
 ·intro again k hk;dsimp only [st]
  have hd:decide ((k:Int) < n)=true:=by simp; omega
  have hrow:(T0++[zzL 0 (-1) false ((List.range k).map fun j=>hD (T1.length+j))])[T0.length]? =some (zzL 0 (-1) false ((List.range k).map fun j=>hD (T1.length+j))):=by simp
  have hnew:=zJE (T1++List.replicate k DS.new.cells)
  have hl:(T1++List.replicate k DS.new.cells).length=T1.length+k:=by simp
  rw [hl,List.append_assoc,ztL] at hnew;rw [hd,zaI,zap hrow];unfold zzL at hrow ⊢
  rw [ziV,ziV,ziV,zxM,zbA,hnew,zab,zaF,za1,zaF,zaa (by rfl),zaa (by rfl),zap hrow,ziV,ziV,ziV,zxM,zbA]
  rw [zaa (by simp; omega),zaa (by rfl),zaa (by rfl),zrY,zy8 hrow]
  have hset:=zlX hrow (List.set [D.int .i64 0,.int .i64 (-1),.bool false,.sl .own ((List.range k).map fun j=>hD (T1.length+j))] 3 .undef)
  have hsn:=zzM T1.length k;unfold hD at hsn
  have hH:(List.map (fun j=>hD (T1.length+j)) (List.range k))++[D.h kD (T1.length+k) 0]=(List.range (k+1)).map fun j=>hD (T1.length+j):=hsn
  dsimp only
  rw [zap hset,zaa (by simp),hH,zaa (by simp)]
  have e1:((List.range (k+1)).map fun j=>hD (T1.length+j))=((List.range (k+1)).map fun j=>T1.length+j).map hD:=by rw [List.map_map]; rfl
  rw [e1,zaa (zBH _),zaa (zDZ _),zrY,zam,zav (by omega) (by omega),zfd hset,←e1,List.set_set]
  simp [zzL]
 ·intro again;dsimp only [st]
  have hd:decide (((n.toNat:Nat):Int) < n)=false:=by simp; omega
  rw [hd,zas]
def nIdx (T1:Tb) (n:Nat):List Nat:=(List.range n).map fun j=>T1.length+j
def nT0 (T0 T1:Tb) (n:Nat):Tb:=T0++[bRow (Ben.new n) (nIdx T1 n)]
def nT1 (T1:Tb) (n:Nat):Tb:=T1++List.replicate n DS.new.cells
theorem zHB (T1:Tb) (n:Nat):((List.range n).map fun j=>hD (T1.length+j))=(nIdx T1 n).map hD:=by unfold nIdx; rw [List.map_map]; rfl
theorem zD0 (T0 T1:Tb) {n:Nat} (h8:n≤8):At (nT0 T0 T1 n) (nT1 T1 n) T0.length (nIdx T1 n) (Ben.new n):=by
 refine ⟨by simp [nT0],?_,fun i hi=>?_,by simp [nIdx,Ben.new],zuw h8⟩
 ·unfold List.Nodup nIdx;rw [List.pairwise_map]
  exact List.Pairwise.imp (fun h e=>h (by omega)) (List.nodup_range (n:=n))
 ·unfold nIdx at hi;obtain ⟨j,hj,rfl⟩:=List.mem_map.1 hi;have:=List.mem_range.1 hj;simp [nT1]; omega
theorem zIX (T0 T1:Tb) (n:Nat):P0 (nT0 T0 T1 n) T0.length (nIdx T1 n) (Ben.new n)=nT0 T0 T1 n:=zDi (by unfold nT0; simp)
theorem zIY (T1:Tb) (n:Nat):P1 (nT1 T1 n) (nIdx T1 n) (Ben.new n)=nT1 T1 n:=by
 unfold P1;show putL _ _ _++[]=_;rw [List.append_nil]
 refine zr9 fun j i c h1 h2=>?_
 have hj:j < n:=by have:=za3 h1; simpa [nIdx] using this
 have e1:i=T1.length+j:=by
  unfold nIdx at h1;rw [List.getElem?_map,List.getElem?_range hj] at h1;simpa using h1.symm
 have e2:c=DS.new.cells:=by
  have:(Ben.new n).ds.map DS.cells=List.replicate n DS.new.cells:=by unfold Ben.new; simp
  rw [this] at h2;rw [List.getElem?_replicate,if_pos hj] at h2;exact (Option.some.inj h2).symm
 subst e1 e2;unfold nT1
 rw [List.getElem?_append_right (by omega),show T1.length+j - T1.length=j by omega,List.getElem?_replicate,if_pos hj]
theorem zIZ (T0 T1:Tb) {n:Nat} (h0:1≤n) (h8:n≤8):
  zbx [.int .i64 n] [T0,T1]=some (Ans.mk (.tup [.h kB T0.length 0,.int .i64 0]) [] [P0 (nT0 T0 T1 n) T0.length (nIdx T1 n) (Ben.new n),P1 (nT1 T1 n) (nIdx T1 n) (Ben.new n)]):=by
 rw [zFD T0 T1 (by omega) (by omega),zIX,zIY,Int.toNat_natCast,zHB]
 rfl
structure Still (B:Ben):Prop where
 ok:B.Ok
 down:B.down=false
 ds:∀ s∈B.ds,s.failed=false∧s.pend=[]
theorem Still.dk {B:Ben} (h:Still B) (d:Int):(B.dk d).failed=false∧(B.dk d).pend=[]:=by
 unfold Ben.dk
 cases e:B.ds[d.toNat]? with
 | none=>exact ⟨rfl,rfl⟩
 | some s=>exact h.ds s (List.mem_of_getElem? e)
theorem Still.failed {B:Ben} (h:Still B) (d:Int):B.failed d=false:=by unfold Ben.failed; rw [(h.dk d).1,Bool.and_false]
theorem zyw {n:Nat} (h:n≤8):Still (Ben.new n):=⟨zuw h,rfl,fun s hs=>by
 unfold Ben.new at hs;rw [(List.mem_replicate.1 hs).2]; exact ⟨rfl,rfl⟩⟩
theorem zI0 (n:Nat) (d:Int):(Ben.new n).dk d=DS.new:=by
 unfold Ben.dk Ben.new;dsimp only;rw [List.getElem?_replicate];split<;>rfl
theorem zFE {a:Nat} (ha:a < 52):DS.new.base a=zff:=by
 unfold DS.base;show ((List.replicate 1664 (0:Int)).drop (a*32)).take 32=_;rw [List.drop_replicate,List.take_replicate];unfold zff;congr 1;omega
theorem zD1 (n:Nat) (d:Int) {a:Int} (a0:0≤a) (a1:a < 52):(Ben.new n).cur d a=zff:=by
 unfold Ben.cur;rw [zI0];show look [] a (DS.new.base a.toNat)=_
 rw [zq9,zFE (by omega)]
section
variable {B:Ben} {d a:Int} {x:List Int}
theorem zyx (h:Still B) (hx:Sec x):Still (B.damage d a x).2∧(B.damage d a x).2.n=B.n∧(B.damage d a x).2.w=B.w∧(B.damage d a x).2.left=B.left:=by
 refine ⟨⟨(zxU h.ok (.inl hx)).ok,?_,?_⟩,(zxU (d:=d) (a:=a) h.ok (.inl hx)).n,?_,?_⟩
 ·unfold Ben.damage; split<;>exact h.down
 ·unfold Ben.damage;split
  ·intro s hs;rcases List.mem_or_eq_of_mem_set hs with hs | hs
   ·exact h.ds s hs
   ·subst hs;unfold DS.damage;dsimp only;split
    ·exact h.dk d
    ·exact h.dk d
  ·exact h.ds
 ·unfold Ben.damage; split<;>rfl
 ·unfold Ben.damage; split<;>rfl
theorem zBI (h:Still B) (hd:B.is d=true) (a0:0≤a) (a1:a < 52) (hx:Sec x) {e b:Int} (e0:0≤e) (b0:0≤b) (b1:b < 52):
  (B.damage d a x).1=0∧(B.damage d a x).2.cur e b=if e=d∧b=a then x else B.cur e b:=by
 have hk:=h.dk d;have hw:(B.dk d).mayW a x=0:=zDd (zpr.2 ⟨hk.1,a0,a1⟩) hx.len
 have e1:(B.dk d).damage a x=(0,(B.dk d).setSec a.toNat x):=by unfold DS.damage; rw [hw,if_pos rfl]
 unfold Ben.damage;rw [if_pos hd,e1];refine ⟨rfl,?_⟩;unfold Ben.cur;rw [zk1 hd e0]
 by_cases he:e=d
 ·subst he;rw [if_pos rfl];have hp:((B.dk e).setSec a.toNat x).pend=[]:=hk.2;unfold DS.sec
  rw [hp,hk.2,zq9,zq9,zr5 (zps h.ok e).1.len (by omega) hx.len b.toNat (by omega)]
  by_cases hb:b=a
  ·rw [if_pos (by omega),if_pos ⟨rfl,hb⟩]
  ·rw [if_neg (by omega),if_neg (fun q=>hb q.2)]
 ·rw [if_neg he,if_neg (fun q=>he q.1)]
end
def Ben.dmgs (B:Ben) (a:Int) (xs:List (List Int)):Nat→Ben
 | 0=>B
 | k+1=>((B.dmgs a xs k).damage (k:Int) a (xs.getD k [])).2
def rowL (g:Geo) (l:List Int) (r:Nat):List (List Int):=secL (l.drop (min r l.length)) g.width.toNat
theorem zwE {g:Geo} (hk:g.ok=true) (l:List Int) (r:Nat):Row g (rowL g l r):=⟨by have:=zca hk; simp [rowL]; omega,zAL _ _⟩
def zlJ (gs:Nat→Geo) (l:List Int) (n:Nat):Nat→Ben
 | 0=>.new n
 | r+1=>(zlJ gs l n r).dmgs (36+(r:Int)) (zdu (gs r) r (rowL (gs r) l r)) (min (gs r).d.toNat n)
structure Filld (gs:Nat→Geo) (l:List Int) (n:Nat) (R:Nat) (B:Ben):Prop where
 still:Still B
 num:B.n=n
 w:B.w=0
 left:B.left= -1
 cur:∀ d a:Int,0≤d→0≤a→a < 52→B.cur d a=if 36≤a∧a < 36+R∧d < (gs (a - 36).toNat).d∧d < n then atR (gs (a - 36).toNat) (a - 36) (rowL (gs (a - 36).toNat) l (a - 36).toNat) d else zff
theorem znI {g:Geo} {r:Int} {data:List (List Int)} {d:Nat} (h:(d:Int) < g.d):(zdu g r data).getD d []=atR g r data d:=by
 rw [List.getD_eq_getElem?_getD,zpu h]; rfl
theorem zp6 {gs:Nat→Geo} {l:List Int} {n R:Nat} {B:Ben} (h:Filld gs l n R B) (hR:R < 16) (hk:(gs R).ok=true):∀ k,k≤min (gs R).d.toNat n→
  Still (B.dmgs (36+(R:Int)) (zdu (gs R) R (rowL (gs R) l R)) k)∧(B.dmgs (36+(R:Int)) (zdu (gs R) R (rowL (gs R) l R)) k).n=n∧(B.dmgs (36+(R:Int)) (zdu (gs R) R (rowL (gs R) l R)) k).w=0∧(B.dmgs (36+(R:Int)) (zdu (gs R) R (rowL (gs R) l R)) k).left= -1∧
  ∀ d a:Int,0≤d→0≤a→a < 52→(B.dmgs (36+(R:Int)) (zdu (gs R) R (rowL (gs R) l R)) k).cur d a=if a=36+R∧d < k then atR (gs R) R (rowL (gs R) l R) d else B.cur d a
 | 0,_=>⟨h.still,h.num,h.w,h.left,fun d a d0 a0 a1=>by rw [if_neg (by omega)]; rfl⟩
 | k+1,hk'=>by
  obtain ⟨i1,i2,i3,i4,i5⟩:=zp6 h hR hk k (by omega)
  have hr:zcI (gs R) (R:Int)=true:=zbJ.2 ⟨hk,by omega,by omega⟩
  have hsec:=zDr hr (zwE hk l R) (d:=(k:Int)) (by omega) (by omega)
  have hg:=znI (g:=gs R) (r:=R) (data:=rowL (gs R) l R) (d:=k) (by omega)
  generalize hB:B.dmgs (36+(R:Int)) (zdu (gs R) R (rowL (gs R) l R)) k=C at*
  have hC:B.dmgs (36+(R:Int)) (zdu (gs R) R (rowL (gs R) l R)) (k+1)=(C.damage (k:Int) (36+(R:Int)) (atR (gs R) R (rowL (gs R) l R) k)).2:=by
   show ((B.dmgs (36+(R:Int)) (zdu (gs R) R (rowL (gs R) l R)) k).damage (k:Int) (36+(R:Int)) ((zdu (gs R) R (rowL (gs R) l R)).getD k [])).2=_;rw [hB,hg]
  rw [hC]
  have hd:C.is (k:Int)=true:=zfE.2 ⟨by omega,by rw [i2]; omega⟩
  obtain ⟨j1,j2,j3,j4⟩:=zyx (d:=(k:Int)) (a:=36+(R:Int)) i1 hsec
  refine ⟨j1,j2.trans i2,j3.trans i3,j4.trans i4,fun d a d0 a0 a1=>?_⟩
  rw [(zBI i1 hd (by omega) (by omega) hsec d0 a0 a1).2,i5 d a d0 a0 a1]
  by_cases ha:a=36+(R:Int)
  ·by_cases hdk:d=k
   ·subst hdk; rw [if_pos ⟨rfl,ha⟩,if_pos ⟨ha,by omega⟩]
   ·rw [if_neg (fun q=>hdk q.1)]
    by_cases hlt:d < k
    ·rw [if_pos ⟨ha,hlt⟩,if_pos ⟨ha,by omega⟩]
    ·rw [if_neg (fun q=>hlt q.2),if_neg (fun q=>by omega)]
  ·rw [if_neg (fun q=>ha q.2),if_neg (fun q=>ha q.1),if_neg (fun q=>ha q.1)]
theorem zlK {gs:Nat→Geo} {l:List Int} {n:Nat} (n8:n≤8) (hk:∀ r,(gs r).ok=true):∀ R,R≤16→Filld gs l n R (zlJ gs l n R)
 | 0,_=>⟨zyw n8,by simp [zlJ,Ben.new,Ben.n],rfl,rfl,fun d a d0 a0 a1=>by rw [if_neg (by omega)]; exact zD1 n d a0 a1⟩
 | R+1,hR=>by
  have ih:=zlK (l:=l) n8 hk R (by omega)
  obtain ⟨i1,i2,i3,i4,i5⟩:=zp6 ih (by omega) (hk R) (min (gs R).d.toNat n) (Nat.le_refl _)
  refine ⟨i1,i2,i3,i4,fun d a d0 a0 a1=>?_⟩
  show ((zlJ gs l n R).dmgs (36+(R:Int)) (zdu (gs R) R (rowL (gs R) l R)) (min (gs R).d.toNat n)).cur d a=_;rw [i5 d a d0 a0 a1,ih.cur d a d0 a0 a1];have hdd:=ok_d (hk R)
  by_cases ha:a=36+(R:Int)
  ·have e:(a - 36).toNat=R:=by omega
   have e2:a - 36=(R:Int):=by omega
   rw [e,e2]
   by_cases hlt:d < (gs R).d∧d < n
   ·rw [if_pos ⟨ha,by omega⟩,if_pos ⟨by omega,by omega,hlt.1,hlt.2⟩]
   ·rw [if_neg (fun q=>hlt ⟨by omega,by omega⟩),if_neg (fun q=>by omega),if_neg (fun q=>hlt ⟨q.2.2.1,q.2.2.2⟩)]
  ·rw [if_neg (fun q=>ha q.1)]
   by_cases hc:36≤a∧a < 36+(R:Int)∧d < (gs (a - 36).toNat).d∧d < n
   ·rw [if_pos hc,if_pos ⟨hc.1,by omega,hc.2.2.1,hc.2.2.2⟩]
   ·rw [if_neg hc,if_neg (fun q=>hc ⟨q.1,by omega,q.2.2.1,q.2.2.2⟩)]
end Wf

namespace Wf
open Go Go.RowKit Go.Proofs
set_option linter.unusedSimpArgs false
set_option linter.unusedVariables false
set_option maxHeartbeats 4000000
theorem zD2 (l:List Int) (n:Nat):(intL l).drop n=intL (l.drop n):=by simp [intL,List.map_drop]
theorem zBJ (l:List Int):zqE 1 (intL l)=true:=by simp [zqE,intL,D.cell,D.width]
theorem zD3 (l:List Int) (r:Int) (r0:0≤r):cutI (min r (l.length:Int)) (l.length:Int) (intL l)=intL (l.drop (min r.toNat l.length)):=by
 unfold cutI
 have:(min r (l.length:Int)).toNat=min r.toNat l.length:=by omega
 rw [this,zD2,List.take_of_length_le (by rw [zc8]; simp; omega)]
section
variable {T0 T1:Tb}
theorem zI1 {g:Geo} (hk:g.ok=true) {n:Nat} (n0:1≤n) (n8:n≤8) (tg:Tag) (l:List Int):
  zba [.agg [.int .i64 g.l,.int .i64 g.d,.int .i64 g.c],.int .i64 n,.sl tg (intL l)] [T0,T1]=
   some (Ans.mk (.h kB T0.length 0) [] [P0 (nT0 T0 T1 n) T0.length (nIdx T1 n) (zlJ (fun _=>g) l n 16),P1 (nT1 T1 n) (nIdx T1 n) (zlJ (fun _=>g) l n 16)]):=by
 rw [zjR,zkU];unfold zeW;have hat0:=zD0 T0 T1 n8;have hnew:=zIZ T0 T1 n0 n8;generalize nT0 T0 T1 n=U0 at*;generalize nT1 T1 n=U1 at*;generalize nIdx T1 n=idx at*;have hw:=zca hk;have hdd:=ok_d hk
 have hF:=fun R hR=>zlK (gs:=fun _=>g) (l:=l) n8 (fun _=>hk) R hR
 have hat:∀ B:Ben,B.Ok→B.n=n→At U0 U1 T0.length idx B:=fun B hB hn=>⟨hat0.b,hat0.nd,hat0.lt,by rw [hat0.len]; unfold Ben.n at hn; simp [Ben.new]; omega,hB⟩
 simp (disch:=first | omega | assumption | (simp; done) | fail) only [hnew,zab,zaF,za1,zeu,zyu,zaR,zfX,zy7,zas,show zkO (D.h kB T0.length 0)=true from rfl,zaa]
 let st:Nat→(Int×List D×(Int×Int×Int×PUnit)×D×Int×PUnit)×List (List D)×List (List D)×PUnit:=fun r=>(((n:Int),intL l,(g.l,g.d,g.c,PUnit.unit),.h kB T0.length 0,(r:Int),PUnit.unit),P0 U0 T0.length idx (zlJ (fun _=>g) l n r),P1 U1 idx (zlJ (fun _=>g) l n r),PUnit.unit)
 show zb2 _ (st 0)=_
 refine zcp st 16 (by omega) ?_ ?_
 ·intro again r hr;dsimp only [st]
  have hfine:zcI g (r:Int)=true:=zbJ.2 ⟨hk,by omega,by omega⟩
  have hm1:0≤min (r:Int) (l.length:Int):=by omega
  have hm2:min (r:Int) (l.length:Int)≤(l.length:Int):=by omega
  have hsp:=fun tg=>zyr tg (l.drop (min r l.length)) (n:=g.width.toNat) (by omega)
  rw [show ((g.width.toNat:Nat):Int)=g.width by omega] at hsp
  have hc:=zD3 l (r:Int) (by omega)
  rw [Int.toNat_natCast] at hc
  have hfill:=zFA g (r:Int) .lent (ps:=fP (rowL g l r)) (by simp [rowL]; omega) (by intro x hx; obtain ⟨y,hy,rfl⟩:=List.mem_map.1 hx; exact zAL _ _ y hy)
  rw [zuN,zDs hfine (zwE hk l r)] at hfill;have hrl:=zl2 g (r:Int) (rowL g l r)
  have hr16:(r:Int) < 16:=by omega
  unfold rowL at hfill
  simp (disch:=first | omega | assumption | (simp; done) | fail) only [zob,zam,zc8,zaa,zBJ,zl5,zab,zaR,hc,hsp,zbA,zb5,Nat.zero_add,Nat.le_refl,hfill,solD,zeu,zyu,zbo]
  have hxs:secL (l.drop (min r l.length)) g.width.toNat=rowL g l r:=rfl;rw [hxs]
  have hFr:=hF r (by omega)
  have hdm:=fun k hk'=>zp6 (gs:=fun _=>g) hFr hr hk k hk'
  have hnx:zlJ (fun _=>g) l n (r+1)=(zlJ (fun _=>g) l n r).dmgs (36+(r:Int)) (zdu g r (rowL g l r)) (min g.d.toNat n):=rfl
  rw [hnx]
  generalize zlJ (fun _=>g) l n r=B at*
  have h0:∀ k,k≤min g.d.toNat n→P0 U0 T0.length idx (B.dmgs (36+(r:Int)) (zdu g r (rowL g l r)) k)=P0 U0 T0.length idx B:=by
   intro k hk'
   induction k with
   | zero=>rfl
   | succ k ih=>
    rw [←ih (by omega)]
    show P0 U0 T0.length idx ((B.dmgs (36+(r:Int)) (zdu g r (rowL g l r)) k).damage _ _ _).2=_;unfold Ben.damage;split<;>rfl
  let s2:Nat→(Int×List D×(Int×Int×Int×PUnit)×D×Int×List D×Bool×Int×PUnit)×List (List D)×List (List D)×PUnit:=fun k=>
   (((n:Int),intL l,(g.l,g.d,g.c,PUnit.unit),.h kB T0.length 0,(r:Int),pL (fP (zdu g r (rowL g l r))),true,(k:Int),PUnit.unit),P0 U0 T0.length idx B,P1 U1 idx (B.dmgs (36+(r:Int)) (zdu g r (rowL g l r)) k),PUnit.unit)
  show zb2 _ (s2 0)=_
  refine zcp s2 (min g.d.toNat n) (by omega) ?_ ?_
  ·intro again2 k hk';dsimp only [s2]
   obtain ⟨i1,i2,i3,i4,i5⟩:=hdm k (by omega)
   have hA:=hat _ i1.ok i2
   have hg:(pL (fP (zdu g r (rowL g l r))))[k]? =some (.sl .fresh (uL (atR g r (rowL g l r) k))):=zc7 (zAG (zpu (by omega)))
   have hb:=zFp hA (by omega) (k:Int) (a:=36+(r:Int)) (by intro w hw; rw [(i1.dk _).2] at hw; cases hw) .fresh (atR g r (rowL g l r) k)
   rw [h0 k (by omega)] at hb
   have hgd:(zdu g r (rowL g l r)).getD k []=atR g r (rowL g l r) k:=znI (by omega)
   have h1:(k:Int) < ((g.d.toNat:Nat):Int):=by omega
   have h2:(k:Int) < (n:Int):=by omega
   have h3:k < g.d.toNat:=by omega
   simp (disch:=first | omega | assumption | (simp; done) | fail) [hrl,h1,h2,h3,zap hg,hb,zav]
   rw [←hgd]; rfl
  ·intro again2;dsimp only [s2];rw [h0 _ (Nat.le_refl _)]
   by_cases h1:min g.d.toNat n < g.d.toNat
   ·have h2:¬ ((min g.d.toNat n:Nat):Int) < (n:Int):=by omega
    have h1':((min g.d.toNat n:Nat):Int) < ((g.d.toNat:Nat):Int):=by omega
    simp (disch:=first | omega | assumption | (simp; done) | fail) only [zaI,hrl,zeA,zij,zaa,Nat.zero_add,Nat.le_refl,zob,zgG,zxO]
    rw [zav (by omega) (by omega)]; rfl
   ·have h1':¬ ((min g.d.toNat n:Nat):Int) < ((g.d.toNat:Nat):Int):=by omega
    simp (disch:=first | omega | assumption | (simp; done) | fail) only [zaI,hrl,zeA,zij,zaa,Nat.zero_add,Nat.le_refl,zgG,zxO]
    rw [zav (by omega) (by omega)]; rfl
 ·intro again;dsimp only [st]
  simp (disch:=first | omega | assumption | (simp; done) | fail) only [zgG,show (D.h kB T0.length 0).free=true from rfl,zaa]
end
end Wf

namespace Wf
open Go Go.RowKit Go.Proofs
set_option linter.unusedSimpArgs false
set_option linter.unusedVariables false
set_option maxHeartbeats 4000000
theorem zD4 {p:Nat→Bool} {a n:Nat} (h:∀ i,i < n→p i=true→i=a):(List.range n).countP p≤1:=by
 have:∀ n,(∀ i,i < n→p i=true→i=a)→(List.range n).countP p≤if a < n then 1 else 0:=by
  intro n
  induction n with
  | zero=>simp
  | succ n ih=>
   intro h
   have ih:=ih fun i hi hp=>h i (by omega) hp
   rw [List.range_succ,List.countP_append,List.countP_singleton]
   by_cases hp:p n=true
   ·rw [if_pos hp]
    have e:=h n (by omega) hp
    subst e; rw [if_neg (by omega)] at ih; rw [if_pos (by omega)]; omega
   ·rw [if_neg hp];split at ih<;>split<;>omega
 have:=this n h;split at this<;>omega
section
variable {B:Ben} {d a:Int}
end
theorem zFF {n:Nat} {d:Int} (d0:0≤d):((List.replicate n true)[d.toNat]?).getD false=decide (d < n):=by
 rw [List.getElem?_replicate]
 by_cases h:d < n
 ·rw [if_pos (by omega)]; simp [h]
 ·rw [if_neg (by omega)]; simp [h]
theorem zD5 {B:Ben} {n:Nat} (hn:B.n=n) {d:Int} (d0:0≤d):B.up (List.replicate n true) d=(decide (d < n) && !B.failed d):=by
 unfold Ben.up;rw [zFF d0,hn];cases decide (d < (n:Int))<;>simp
theorem zFG (B:Ben) (live:List Bool):nW (B.fActs live)=0:=by
 unfold Ben.fActs nW;rw [List.length_eq_zero_iff,List.filter_eq_nil_iff];intro a ha;obtain ⟨d,_,ha⟩:=List.mem_flatMap.1 ha;split at ha
 ·rw [List.mem_singleton.1 ha]; simp [Act.isW]
 ·cases ha
theorem zAP (f:Nat→Int) {n:Nat}:sumK f 32 (List.replicate n zff) n=zff:=by
 have hs:∀ l∈List.replicate n zff,l.length=32:=by intro l hl; rw [(List.mem_replicate.1 hl).2]; exact ziX.len
 have hl:(sumK f 32 (List.replicate n zff) n).length=32:=zlZ hs (by simp)
 refine zC6 (by rw [hl,ziX.len]) fun i hi=>?_
 rw [hl] at hi
 rw [zur hs hi (by simp),zkY]
 have:∀ k,k≤n→xsum (fun j=>mul8 (getB ((List.replicate n zff).getD j []) i) (f j)) k=0:=by
  intro k
  induction k with
  | zero=>intro _; rfl
  | succ k ih=>
   intro hk
   have e:(List.replicate n zff).getD k []=zff:=by rw [List.getD_eq_getElem?_getD,List.getElem?_replicate,if_pos (by omega)]; rfl
   show xor8 (xsum _ k) (mul8 (getB ((List.replicate n zff).getD k []) i) (f k))=0
   rw [ih (by omega),e,zkY,zof]; rfl
 exact this n (Nat.le_refl _)
def znJ (g:Geo):List (List Int):=List.replicate g.width.toNat zff
theorem zFH {g:Geo} (hk:g.ok=true):Row g (znJ g):=⟨by have:=zca hk; simp [znJ]; omega,fun x hx=>by rw [(List.mem_replicate.1 hx).2]; exact ziX⟩
theorem zHC {g:Geo} {r d:Int} (hr:zcI g r=true) (d0:0≤d) (d1:d < g.d):atR g r (znJ g) d=zff:=by
 unfold atR;split
 ·unfold sumP znJ; rw [List.length_replicate]; exact zAP _
 ·rename_i h1;split
  ·unfold sumQ znJ; rw [List.length_replicate]; exact zAP _
  ·rename_i h2;obtain ⟨c0,c1,_⟩:=zjD hr d0 d1 h1 h2;unfold znJ
   rw [List.getD_eq_getElem?_getD,List.getElem?_replicate,if_pos (by omega)]; rfl
end Wf

namespace Wf
open Go Go.RowKit Go.Proofs
set_option linter.unusedSimpArgs false
set_option linter.unusedVariables false
set_option maxHeartbeats 4000000
theorem zBK (l:List Bool):(l.map D.bool).all D.free=true:=by rw [List.all_map,List.all_eq_true]; intro b _; rfl
theorem zBL {d k:Nat} (hk:k < d):((List.range d).map fun i=>D.bool (decide (i < k))).set k (.bool true)=(List.range d).map fun i=>D.bool (decide (i < k+1)):=by
 apply List.ext_getElem?;intro j;rw [List.getElem?_set]
 by_cases hj:j < d
 ·by_cases hjk:k=j
  ·subst hjk; simp [hj]
  ·rw [if_neg hjk];simp only [List.getElem?_map,List.getElem?_range hj,Option.map_some,Option.some.injEq,D.bool.injEq,decide_eq_decide];omega
 ·have h1:k≠j:=by omega
  rw [if_neg h1,List.getElem?_eq_none (by simp; omega),List.getElem?_eq_none (by simp; omega)]
theorem zFI {d:Nat} (h0:1≤d) (h8:d≤8):zbF [.int .i64 0,.int .i64 d]=some (.sl .own ((List.replicate d true).map D.bool)):=by
 rw [zmq];unfold zgg
 rw [zaa (by omega),zaa (by rfl),zaa (by omega),zaa (by omega),zaa (by simp),zaa (by simp),Int.toNat_natCast]
 let st:Nat→(Int×Int×List D×Int×Int×PUnit)×PUnit:=fun k=>((0,(d:Int),(List.range d).map (fun i=>D.bool (decide (i < k))),(d:Int),(k:Int),PUnit.unit),PUnit.unit)
 have hst:st 0=((0,(d:Int),List.replicate d (D.bool false),(d:Int),0,PUnit.unit),PUnit.unit):=by
  have:(List.range d).map (fun i=>D.bool (decide (i < 0)))=List.replicate d (D.bool false):=by
   apply List.ext_getElem?; intro j
   by_cases hj:j < d
   ·simp [hj]
   ·rw [List.getElem?_eq_none (by simp; omega),List.getElem?_eq_none (by simp; omega)]
  simp only [st,this]; rfl
 rw [←hst]
 refine zcj st d (by omega) ?_ ?_
 ·intro again k hk;dsimp only [st]
  have hd:decide ((k:Int) < (d:Int))=true:=by simp; omega
  have hg:((List.range d).map (fun i=>D.bool (decide (i < k))))[k]? =some (.bool false):=by simp [hk]
  rw [hd,zaI,zaa (by omega),zaa (by simp; omega),Nat.zero_add,show Int.toNat (k:Int)=k from rfl,zap hg,zaa (by rfl),zam,zav (by omega) (by omega),zaa (by simp),zBL hk]
  rfl
 ·intro again;dsimp only [st]
  have hd:decide ((d:Int) < (d:Int))=false:=by simp
  have hd1:decide ((d:Int) > 0)=true:=by simp; omega
  have hall:(List.range d).map (fun i=>D.bool (decide (i < d)))=(List.replicate d true).map D.bool:=by
   apply List.ext_getElem?; intro j
   by_cases hj:j < d
   ·simp [hj]
   ·rw [List.getElem?_eq_none (by simp; omega),List.getElem?_eq_none (by simp; omega)]
  have hz:decide ((0:Int) % 3 > 0)=false:=rfl;have hz2:((0:Int) % 9 == 8)=false:=rfl
  rw [hd,zas,hd1,zaI,znF 0 3 (by omega) (by omega),zab,zaR,hz,zas,zaI,znF 0 9 (by omega) (by omega),zab,zaR,hz2,zas,zaa (by rfl),hall,zaa (zBK _)]
end Wf

namespace Wf
open Go Go.RowKit
universe u
def idf {α:Sort u} (a:α):α:=a
@[simp] theorem zea {α:Sort u} (a:α):idf a=a:=congrFun (funext fun _=>rfl) a
section
variable {R α β:Type}
@[congr high] theorem zJi {b b':Bool} {x y:Option R} (h:idf b=b'):brK b x y=brK b' x y:=by rw [zea] at h; rw [h]
@[congr high] theorem zH3 {x x':Option α} {f:α→Option R} (h:idf x=x'):zar x f=zar x' f:=by rw [zea] at h; rw [h]
@[congr high] theorem zJj {c c':Prop} [d:Decidable c] [d':Decidable c'] {x:Option R} (h:idf c=c'):sif c x=sif c' x:=by rw [zea] at h; subst h; congr
@[congr high] theorem zI2 {n n':Int} {f:Int→Option R} (h:idf n=n'):letN n f=letN n' f:=by rw [zea] at h; rw [h]
@[congr high] theorem zI3 {l l':List α} {i i':Nat} {f:α→Option R} (h:idf l=l') (h':idf i=i'):getK l i f=getK l' i' f:=by rw [zea] at h h'; rw [h,h']
@[congr high] theorem zJk {k:IntKind} {d d':D} {f:Int→Option R} (h:idf d=d'):asI k d f=asI k d' f:=by rw [zea] at h; rw [h]
@[congr high] theorem zJl {d d':D} {f:Bool→Option R} (h:idf d=d'):asB d f=asB d' f:=by rw [zea] at h; rw [h]
@[congr high] theorem zJm {d d':D} {f:ByteArray→Option R} (h:idf d=d'):asS d f=asS d' f:=by rw [zea] at h; rw [h]
@[congr high] theorem zI4 {d d':D} {f:Tag→List D→Option R} (h:idf d=d'):asSl d f=asSl d' f:=by rw [zea] at h; rw [h]
@[congr high] theorem zH4 {d d':D} {f:List D→Option R} (h:idf d=d'):zbn d f=zbn d' f:=by rw [zea] at h; rw [h]
@[congr high] theorem zHD {d d':D} {f:List D→Option R} (h:idf d=d'):zmE d f=zmE d' f:=by rw [zea] at h; rw [h]
@[congr high] theorem zH5 {d d':D} {f:List D→Option R} (h:idf d=d'):asAgg d f=asAgg d' f:=by rw [zea] at h; rw [h]
@[congr high] theorem zH6 {d d':D} {f:List D→Option R} (h:idf d=d'):ze3 d f=ze3 d' f:=by rw [zea] at h; rw [h]
@[congr high] theorem zI5 {d d':D} {f:D→Option R} (h:idf d=d'):asAt d f=asAt d' f:=by rw [zea] at h; rw [h]
@[congr high] theorem zH7 {d d':List D} {f:D→Option R} (h:idf d=d'):zCA d f=zCA d' f:=by rw [zea] at h; rw [h]
@[congr high] theorem zJn {k:Nat} {d d':D} {f:Nat→Option R} (h:idf d=d'):asH k d f=asH k d' f:=by rw [zea] at h; rw [h]
@[congr high] theorem zH8 {d d':D} {f:Bool→Option R} (h:idf d=d'):zpe d f=zpe d' f:=by rw [zea] at h; rw [h]
@[congr high] theorem zHE {d d':D} {f:Bool→Option R} (h:idf d=d'):zrE d f=zrE d' f:=by rw [zea] at h; rw [h]
@[congr high] theorem zHF {kk:MK} {d d':D} {f:List (Int×D)→Option R} (h:idf d=d'):ziQ kk d f=ziQ kk d' f:=by rw [zea] at h; rw [h]
@[congr high] theorem zH9 {kk:MK} {d d':D} {f:List (Int×D)→Option R} (h:idf d=d'):zrF kk d f=zrF kk d' f:=by rw [zea] at h; rw [h]
@[congr high] theorem zI6 {T T':Tb} {f:Tb→Option R} (h:idf T=T'):letT T f=letT T' f:=by rw [zea] at h; rw [h]
@[congr high] theorem zIa {l l':List α} {f:α→List α→Option R} (h:idf l=l'):zc1 l f=zc1 l' f:=by rw [zea] at h; rw [h]
@[congr high] theorem zI7 {l l':List α} {x:Option R} (h:idf l=l'):nilK l x=nilK l' x:=by rw [zea] at h; rw [h]
@[congr high] theorem zFJ {ls:List Lf} {d d':List D} {f:LfT ls→Option R} (h:idf d=d'):zaz ls d f=zaz ls d' f:=by rw [zea] at h; rw [h]
@[congr high] theorem zIb {B:(α→Option R)→α→Option R} {a a':α} (h:idf a=a'):zb2 B a=zb2 B a':=by rw [zea] at h; rw [h]
end
@[simp] theorem zJo (k i:Nat):zkO (.h k i 0)=true:=rfl
@[simp] theorem zJP (k i:Nat):D.free (.h k i 0)=true:=rfl
@[simp] theorem zeC {R:Type} (a b:D) (f:LfT [.any,.any]→Option R):zaz [.any,.any] [a,b] f=f (a,b,()):=by rw [zcB,zcB,zcr]
@[simp] theorem zJp {β:Type} {l:List β} {n:Nat} (h:l.length=n):cut 0 n l=l:=by subst h; exact zb5 l
end Wf

namespace Wf
open Go Go.RowKit Go.Proofs
set_option linter.unusedSimpArgs false
set_option linter.unusedVariables false
set_option maxHeartbeats 4000000
theorem zHG (B:Ben) (live:List Bool):∀ a∈B.fActs live,a.isW=false:=by
 intro a ha;unfold Ben.fActs at ha;obtain ⟨e,he,ha⟩:=List.mem_flatMap.1 ha;split at ha
 ·rw [List.mem_singleton.1 ha]; rfl
 ·cases ha
structure Run (U V:Tb) (b:Nat) (idx:List Nat) (B:Ben) (n:Nat) (K:Int):Prop where
 at':At U V b idx B
 num:B.n=n
 down:B.down=false
 left:B.left= -1
 w:B.w≤K
theorem Run.mono {U V:Tb} {b:Nat} {idx:List Nat} {B:Ben} {n:Nat} {K L:Int} (h:Run U V b idx B n K) (hk:K≤L):Run U V b idx B n L:=⟨h.at',h.num,h.down,h.left,by have:=h.w; omega⟩
theorem zBM (T0 T1:Tb) {g:Geo} (hk:g.ok=true) {n:Nat} (n0:1≤n) (n8:n≤8) (tg:Tag) (l:List Int):∃ U V idx B,
  zba [.agg [.int .i64 g.l,.int .i64 g.d,.int .i64 g.c],.int .i64 n,.sl tg (intL l)] [T0,T1]=some (Ans.mk (.h kB T0.length 0) [] [P0 U T0.length idx B,P1 V idx B])∧
  Run U V T0.length idx B n 0∧Still B∧B.w=0∧(∀ d s:Int,0≤d→d < g.d→d < n→0≤s→s < 16→B.cur d (36+s)=atR g s (rowL g l s.toNat) d)∧(∀ d a:Int,0≤d→0≤a→a < 36∨g.d≤d→a < 52→B.cur d a=zff):=by
 have hF:=zlK (gs:=fun _=>g) (l:=l) n8 (fun _=>hk) 16 (by omega)
 have hat0:=zD0 T0 T1 n8
 refine ⟨_,_,_,_,zI1 hk n0 n8 tg l,⟨⟨hat0.b,hat0.nd,hat0.lt,?_,hF.still.ok⟩,hF.num,hF.still.down,hF.left,by rw [hF.w]; omega⟩,hF.still,hF.w,fun d s d0 d1 d2 s0 s1=>?_,fun d a d0 a0 ha a1=>?_⟩
 ·have:=hF.num; unfold Ben.n at this; rw [hat0.len]; simp [Ben.new]; omega
 ·rw [hF.cur d (36+s) d0 (by omega) (by omega),show (36+s - 36)=s by omega,if_pos ⟨by omega,by omega,d1,d2⟩]
 ·rw [hF.cur d a d0 a0 a1,if_neg (fun q=>by omega)]
section
variable {U V:Tb} {b:Nat} {idx:List Nat} {B:Ben} {n:Nat} {K:Int}
theorem Run.up (h:Run U V b idx B n K) {d:Int} (d0:0≤d):B.up (List.replicate n true) d=(decide (d < n) && !B.failed d):=zD5 h.num d0
theorem Run.is (h:Run U V b idx B n K) {d:Int} (d0:0≤d) (d1:d < n):B.is d=true:=zfE.2 ⟨d0,by rw [h.num]; exact d1⟩
theorem Run.read (h:Run U V b idx B n K) (hK:K≤900000) (tg:Tag) (live:List Bool) (g:Geo) (r:Int):
  zcc [.h kB b 0,.sl tg (live.map D.bool),.agg [.int .i64 g.l,.int .i64 g.d,.int .i64 g.c],.int .i64 r] [P0 U b idx B,P1 V idx B]=some (Ans.mk (.tup [.sl .own (pL (fP (B.sRead live g r).1)),.int .i64 (B.sRead live g r).2]) [] []):=
 zsW h.at' (by have:=h.w; omega) tg live g r
end
end Wf

namespace Wf
open Go Go.RowKit Go.Proofs
set_option linter.unusedSimpArgs false
set_option linter.unusedVariables false
set_option maxHeartbeats 4000000
@[simp ↓] theorem zJQ {R α:Type} (g:α→Option R) (f:(α→Option R)→Option R):jn g f=f g:=rfl
theorem zHH {R α:Type} {g:α→Option R} {f:(α→Option R)→Option R} {r:Option R} (I:α→Prop) (hg:∀ a,I a→g a=r) (hf:∀ j,(∀ a,I a→j a=r)→f j=r):jn g f=r:=hf g hg
section
variable {T0 T1:Tb} {b:Nat} {idx:List Nat} {B:Ben}
end
end Wf

namespace Wf
open Go Go.RowKit Go.Proofs
set_option linter.unusedSimpArgs false
set_option linter.unusedVariables false
set_option maxHeartbeats 4000000
def Ben.nP (B:Ben) (d:Int):Nat:=(B.dk d).pend.length
section
variable {B:Ben}
theorem zAQ {a:Act} (h:a.Ok B) {e:Int} (e0:0≤e):(B.does1 a).nP e=match a with
  | .w d _ _=>if e=d then B.nP e+1 else B.nP e
  | .f d=>if e=d then 0 else B.nP e:=by
 cases a with
 | w d a x=>
  show (((B.junk ((B.dk d).write a x).2).less.setD d ((B.dk d).add a x)).dk e).pend.length=if e=d then B.nP e+1 else B.nP e
  rw [zk1 (by simpa using h.1) e0]
  by_cases he:e=d
  ·subst he; rw [if_pos rfl,if_pos rfl]; simp [DS.add,Ben.nP]
  ·rw [if_neg he,if_neg he]; rfl
 | f d=>
  show ((B.setD d (B.dk d).flushed).dk e).pend.length=if e=d then 0 else B.nP e
  rw [zk1 h.1 e0]
  by_cases he:e=d
  ·subst he; rw [if_pos rfl,if_pos rfl]; rfl
  ·rw [if_neg he,if_neg he]; rfl
theorem zD6 {as':List Act} (hB:B.Ok):(∀ a∈as',a.Ok B)→(does B as').Ok∧∀ c:Act,c.Ok B→c.Ok (does B as'):=by
 induction as' generalizing B with
 | nil=>intro _; exact ⟨hB,fun c hc=>hc⟩
 | cons a l ih=>
  intro h;have ha:=h a (List.mem_cons_self ..)
  obtain ⟨i1,i2⟩:=ih (zjC hB ha).ok fun c hc=>zol hB ha (h c (List.mem_cons_of_mem _ hc))
  exact ⟨i1,fun c hc=>i2 c (zol hB ha hc)⟩
end
end Wf

namespace Wf
open Go Go.RowKit Go.Proofs
set_option linter.unusedSimpArgs false
set_option linter.unusedVariables false
set_option maxHeartbeats 4000000
theorem zFK (g:Geo):zaX [.agg [.int .i64 g.l,.int .i64 g.d,.int .i64 g.c]]=some (.int .i64 g.cap):=by
 rw [ziA];unfold zef
 have hw:0≤g.width∧g.width≤8:=by
  unfold Geo.width zgQ;split
  ·rename_i h; have:=zca h; unfold Geo.width zgQ at this; rw [if_pos h] at this; omega
  ·omega
 have hb:IntKind.i64.wrap (g.width*16)=g.width*16:=zav (by omega) (by omega)
 simp [zl5,hb,zAB]
end Wf

namespace Wf
open Go Go.RowKit Go.Proofs
set_option linter.unusedSimpArgs false
set_option linter.unusedVariables false
set_option maxHeartbeats 4000000
theorem zBN {l:List Int} (h:l=[]∨Sec l):Sec (zkk 32 l):=by
 rcases h with rfl | h
 ·rw [zxR]; exact ziX
 ·rw [zr1 h.len]; exact h
theorem zrc {ls:List (List Int)} {j:Nat} {x:List Int} (h:∀ y∈ls,Sec y) (hx:Sec x):∀ y∈ls.set j x,Sec y:=fun y hy=>by
 rcases List.mem_or_eq_of_mem_set hy with hy | hy
 ·exact h y hy
 ·rw [hy]; exact hx
theorem zBO {p q:List Int} {ls o:List (List Int)} (hp:p=[]∨Sec p) (hq:q=[]∨Sec q) (hl:∀ l∈ls,l=[]∨Sec l) (h:zk0 p q ls=some o):∀ x∈o,Sec x:=by
 have hf:∀ x∈zcH ls,Sec x:=fun x hx=>by
  obtain ⟨y,hy,rfl⟩:=List.mem_map.1 hx;exact zBN (hl y hy)
 have hP:=zvM hf;have hQ:=zvN hf;unfold zk0 at h;split at h
 ·cases h
 split at h
 ·cases h
 rename_i hc;rw [zvO] at hc;split at h
 ·rename_i j k hm;rw [hm] at hc
  have hp1:Sec p:=hp.resolve_left fun e=>by rw [if_pos e] at hc; simp at hc
  have hq1:Sec q:=hq.resolve_left fun e=>by rw [if_pos e] at hc; simp at hc
  cases h;have hX:Sec (twoX p q (zcH ls) j k):=zog _ (ziq (ziq hq1 hQ) (zog _ (ziq hp1 hP)));exact zrc (zrc hf hX) (ziq (ziq hp1 hP) hX)
 ·rename_i j hm;rw [hm] at hc;split at h
  ·rename_i h0
   have hp1:Sec p:=hp.resolve_left fun e=>by rw [e] at h0; simp at h0
   cases h;exact zrc hf (ziq hp1 hP)
  ·rename_i h0
   have hp0:p=[]:=by cases p; rfl; simp at h0
   have hq1:Sec q:=hq.resolve_left fun e=>by rw [if_pos e,if_pos hp0] at hc; simp at hc
   cases h;exact zrc hf (zog _ (ziq hq1 hQ))
 ·cases h; exact hf
section
variable {B:Ben}
theorem zHI (hB:B.Ok) {d a:Int} (a0:0≤a) (a1:a < 52):Sec (B.cur d a):=zIB (zps hB d).1 a0 a1
theorem zyy (hB:B.Ok) {live:List Bool} {g:Geo} {r:Int} (h:(B.sRead live g r).2=0):Row g (B.sRead live g r).1∧zcI g r=true:=by
 unfold Ben.sRead at h ⊢;split at h
 ·exact absurd h (by decide)
 rename_i hr
 have hr:zcI g r=true:=by simpa using hr
 rw [if_neg (by simp [hr])]
 split at h
 ·exact absurd h (by decide)
 rename_i hd;rw [if_neg hd]
 cases ht:ztd g r (B.secs live r g.d.toNat) with
 | none=>rw [ht] at h; exact absurd h (by decide)
 | some o=>
  refine ⟨⟨?_,?_⟩,hr⟩
  ·have:=zFB ht;have:=zca (zbJ.1 hr).1;show (o.length:Int)=_;omega
  ·obtain ⟨hk,r0,r1⟩:=zbJ.1 hr
   have hs:∀ j:Nat,(B.secs live r g.d.toNat).getD j []=[]∨Sec ((B.secs live r g.d.toNat).getD j []):=by
    intro j;unfold Ben.secs;rw [List.getD_eq_getElem?_getD,List.getElem?_map]
    cases (List.range g.d.toNat)[j]? with
    | none=>exact .inl rfl
    | some d=>
     show (if B.up live d=true then _ else _)=[]∨Sec (if B.up live d=true then _ else _)
     split
     ·exact .inr (zHI hB (by omega) (by omega))
     ·exact .inl rfl
   unfold ztd at ht;split at ht
   rotate_left
   ·cases ht
   refine zBO (hs _) ?_ (fun l hl=>?_) ht
   ·unfold qOf;split
    ·exact .inl rfl
    ·exact hs _
   ·obtain ⟨j,_,rfl⟩:=List.mem_map.1 hl;exact hs _
end
section
variable {T0 T1:Tb} {b:Nat} {idx:List Nat} {B:Ben}
end
end Wf

namespace Wf
open Go Go.RowKit
set_option linter.unusedSimpArgs false
set_option linter.unusedVariables false
theorem zHJ {c r w m row j:Int} (hc:c=1∨c=2∨c=4) (hr:r=1∨r=2∨r=4) (hcr:c≤r) (hw:2≤w∧w≤7) (j0:0≤j) (j1:j < w) (h0:0≤row) (h:row < m*r):(row / c*w+j)*c+row % c < m*(r*w):=by
 have hw:w=2∨w=3∨w=4∨w=5∨w=6∨w=7:=by omega
 rcases hc with rfl | rfl | rfl<;>rcases hr with rfl | rfl | rfl<;>first | (exfalso; omega) | (rcases hw with rfl | rfl | rfl | rfl | rfl | rfl<;>omega)
theorem zFL {c r w m row j:Int} (hc:c=1∨c=2∨c=4) (hr:r=1∨r=2∨r=4) (hcr:c≤r) (hw:2≤w∧w≤7) (j0:0≤j) (j1:j < w) (h0:0≤row) (h:m*r≤row):m*(r*w)≤(row / c*w+j)*c+row % c:=by
 have hw:w=2∨w=3∨w=4∨w=5∨w=6∨w=7:=by omega
 rcases hc with rfl | rfl | rfl<;>rcases hr with rfl | rfl | rfl<;>first | (exfalso; omega) | (rcases hw with rfl | rfl | rfl | rfl | rfl | rfl<;>omega)
theorem zFM {c r w k a:Int} (hc:c=1∨c=2∨c=4) (hr:r=1∨r=2∨r=4) (hcr:c≤r) (hw:2≤w∧w≤7) (h0:0≤a) (h:k*r*w≤a):k*r≤a / c / w*c+a % c:=by
 have hw:w=2∨w=3∨w=4∨w=5∨w=6∨w=7:=by omega
 rcases hc with rfl | rfl | rfl<;>rcases hr with rfl | rfl | rfl<;>first | (exfalso; omega) | (rcases hw with rfl | rfl | rfl | rfl | rfl | rfl<;>omega)
theorem zgE {g:Geo} {a:Int} (h0:0≤a) (h1:a < g.cap):zcI g (rowG g a)=true∧0≤zcP g a∧zcP g a < g.width∧numP g (rowG g a) (zcP g a)=a:=by
 have hk:=zAC h0 h1;have hr:=zvW h0 h1;have hm:=zIM hk (a / g.c);refine ⟨zbJ.2 ⟨hk,hr.1,hr.2.1⟩,hm.1,hm.2,?_⟩;have hw:=zca hk;have hc:=(zei.1 hk).2.2;unfold numP rowG zcP;generalize g.c=c at*;generalize g.width=w at*
 have hw:w=2∨w=3∨w=4∨w=5∨w=6∨w=7:=by omega
 rcases hc with rfl | rfl | rfl<;>rcases hw with rfl | rfl | rfl | rfl | rfl | rfl<;>omega
theorem zHK {x y:Geo} {k:Int} (h0:0≤k) (h1:k < winP x y):ze5 x y k=(k*(zc9 x y*y.width),(k+1)*(zc9 x y*y.width)):=by
 unfold ze5; rw [if_neg (by omega)]
theorem zHL {x y:Geo} {k:Int} (h0:0≤k) (h1:k < winP x y):x.can y=true:=by
 cases h:x.can y
 ·have:=(zHi h).2; omega
 ·rfl
structure Win (x y:Geo) (k:Int):Prop where
 can:x.can y=true
 xok:x.ok=true
 yok:y.ok=true
 r:zc9 x y=1∨zc9 x y=2∨zc9 x y=4
 xc:x.c≤zc9 x y
 yc:y.c≤zc9 x y
 r0:0≤k*zc9 x y
 r1:(k+1)*zc9 x y≤16
 rr:(k+1)*zc9 x y=k*zc9 x y+zc9 x y
 s1:(ze5 x y k).1=k*(zc9 x y*y.width)
 s2:(ze5 x y k).2=(k+1)*(zc9 x y*y.width)
 ss:(ze5 x y k).2=(ze5 x y k).1+zc9 x y*y.width
 s0:0≤(ze5 x y k).1
 se:(ze5 x y k).2≤y.cap
 m:2≤zc9 x y*y.width∧zc9 x y*y.width≤28
theorem zGk {x y:Geo} {k:Int} (h0:0≤k) (h1:k < winP x y):Win x y k:=by
 have hc:=zHL h0 h1;obtain ⟨k1,k2,k3,k4,k5,k6⟩:=zvV.1 hc;obtain ⟨e1,e2⟩:=zDl hc;obtain ⟨e3,e4,e5⟩:=zIL hc;have hw:=zca k2;have hs:=zHK h0 h1;have hx:=(zei.1 k1).2.2;have hy:=(zei.1 k2).2.2
 have rr:(k+1)*zc9 x y=k*zc9 x y+zc9 x y:=by rw [Int.add_mul,Int.one_mul]
 have ss:(k+1)*(zc9 x y*y.width)=k*(zc9 x y*y.width)+zc9 x y*y.width:=by rw [Int.add_mul,Int.one_mul]
 have hm:2≤zc9 x y*y.width∧zc9 x y*y.width≤28:=by rcases e2 with e | e | e<;>rw [e]<;>omega
 have hr0:0≤k*zc9 x y:=Int.mul_nonneg h0 (by omega)
 have hr1:(k+1)*zc9 x y≤16:=by
  rw [←e5]
  exact Int.mul_le_mul_of_nonneg_right (by omega) (by omega)
 refine ⟨hc,k1,k2,e2,by omega,by omega,hr0,hr1,rr,by rw [hs],by rw [hs],by rw [hs]; exact ss,by rw [hs]; exact Int.mul_nonneg h0 (by omega),?_,hm⟩
 rw [hs];show (k+1)*(zc9 x y*y.width)≤y.width*16;rw [←Int.mul_assoc,Int.mul_comm y.width 16]
 exact Int.mul_le_mul_of_nonneg_right hr1 (by omega)
theorem zFN {x y:Geo} {k r j:Int} (h:Win x y k) (r0:k*zc9 x y≤r) (r1:r < (k+1)*zc9 x y) (j0:0≤j) (j1:j < y.width):(ze5 x y k).1≤numP y r j∧numP y r j < (ze5 x y k).2:=by
 have hw:=zca h.yok;have hy:=(zei.1 h.yok).2.2;have:=h.r0;rw [h.s1,h.s2];unfold numP
 exact ⟨zFL hy h.r h.yc hw j0 j1 (by omega) r0,zHJ hy h.r h.yc hw j0 j1 (by omega) r1⟩
theorem zHM {x y:Geo} {k n:Int} (h:Win x y k) (n0:(ze5 x y k).1≤n) (n1:n < x.cap):k*zc9 x y≤rowG x n:=by
 have hw:=zca h.xok;have hx:=(zei.1 h.xok).2.2;have hs:=h.s0;have hww:=(zvV.1 h.can).2.2.2.2.2;rw [h.s1] at n0 hs
 have hle:k*zc9 x y*x.width≤k*(zc9 x y*y.width):=by
  rw [Int.mul_assoc]
  have h0:0≤k:=by
   rcases h.r with e | e | e<;>have:=h.r0<;>rw [e] at this<;>omega
  exact Int.mul_le_mul_of_nonneg_left (Int.mul_le_mul_of_nonneg_left hww (by rcases h.r with e | e | e<;>omega)) h0
 unfold rowG
 exact zFM hx h.r h.xc hw (by omega) (by omega)
end Wf

namespace Wf
open Go Go.RowKit Go.Proofs
set_option linter.unusedSimpArgs false
set_option linter.unusedVariables false
set_option maxHeartbeats 4000000
section
variable (a to:Geo) (k:Int)
def mayW:Bool:=decide (0≤k) && decide (k < winP a to)
end
def Act.sec:Act→Prop
 | .w _ _ x=>Sec x
 | .f _=>True
theorem zwF:∀ (l:List Act) {B:Ben},B.Ok→(∀ a∈l,a.sec)→Nx (nW l) B (runA l B).2∧Like B (runA l B).2
 | [],B,hB,_=>⟨.rfl' hB (by simp [nW]),.refl B⟩
 | a::l,B,hB,h=>by
  have ha:=h a (List.mem_cons_self ..)
  have h1:Nx (if a.isW=true then 1 else 0) B (B.act a).2∧Like B (B.act a).2:=by
   cases a with
   | w d a x=>exact ⟨zvS hB (.inl ha),zp5 ..⟩
   | f d=>exact ⟨zAx hB,zuS hB d⟩
  rw [zk2,zzj]
  by_cases h0:(B.act a).1=0
  ·rw [if_pos h0]
   obtain ⟨h2,h3⟩:=zwF l h1.1.ok fun c hc=>h c (List.mem_cons_of_mem _ hc)
   exact ⟨(h1.1.trans h2).mono (by split<;>simp),h1.2.trans h3⟩
  ·rw [if_neg h0]
   exact ⟨h1.1.mono (by split<;>simp<;>omega),h1.2⟩
theorem zzN {T0:Tb} {b:Nat} {idx:List Nat}:∀ (l:List Act) (B:Ben),(∀ a∈l,a.isW=false)→P0 T0 b idx (runA l B).2=P0 T0 b idx B
 | [],B,_=>rfl
 | a::l,B,h=>by
  have h1:P0 T0 b idx (B.act a).2=P0 T0 b idx B:=by
   have:=h a (List.mem_cons_self ..)
   cases a with
   | w d a x=>cases this
   | f d=>show P0 T0 b idx (B.flush d).2=_; unfold Ben.flush; split<;>rfl
  rw [zk2];split
  ·rw [zzN l _ fun a ha=>h a (List.mem_cons_of_mem _ ha),h1]
  ·exact h1
def Ben.wOne (B:Ben) (live:List Bool) (a:Geo) (n:Int):List Int×Int:=if a.cap≤n then (zff,0) else B.sOne live a n
def Ben.wStep (B:Ben) (live:List Bool) (a:Geo) (from':Int) (j:Nat) (acc:List (List Int)):Int×List (List Int):=
 if (B.wOne live a (from'+j)).2=0 then (0,acc++[(B.wOne live a (from'+j)).1]) else ((B.wOne live a (from'+j)).2,acc)
def Ben.wGo (B:Ben) (live:List Bool) (a to:Geo) (k:Int):Int×List (List Int):=runE (B.wStep live a (ze5 a to k).1) 0 ((ze5 a to k).2 - (ze5 a to k).1).toNat []
def Ben.wRead (B:Ben) (live:List Bool) (a to:Geo) (k:Int):List (List Int)×Int:=
 if mayW a to k=false then ([],1) else (if (B.wGo live a to k).1=0 then (B.wGo live a to k).2 else [],(B.wGo live a to k).1)
def rowW (a to:Geo) (k:Int) (data:List (List Int)) (r:Int):List (List Int):=(List.range to.width.toNat).map fun (j:Nat)=>data.getD (numP to r j - (ze5 a to k).1).toNat []
theorem zFO {a to:Geo} {k:Int}:mayW a to k=true↔0≤k∧k < winP a to:=by unfold mayW; simp
section
variable {T0 T1:Tb} {b:Nat} {idx:List Nat} {B:Ben}
end
end Wf

namespace Wf
open Go Go.RowKit Go.Proofs
set_option linter.unusedSimpArgs false
set_option linter.unusedVariables false
set_option maxHeartbeats 4000000
section
variable {B B':Ben} {live:List Bool}
theorem Like.fActs (h:Like B B'):B'.fActs live=B.fActs live:=by
 unfold Ben.fActs
 have:B'.ds.length=B.ds.length:=by have:=h.1; unfold Ben.n at this; omega
 rw [this];simp only [h.up]
def Act.d:Act→Int
 | .w d _ _=>d
 | .f d=>d
end
section
variable {a to:Geo} {k:Int} {data:List (List Int)}
structure WinD (a to:Geo) (k:Int) (data:List (List Int)):Prop where
 k0:0≤k
 k1:k < winP a to
 len:(data.length:Int)=(ze5 a to k).2 - (ze5 a to k).1
 sec:∀ x∈data,Sec x
theorem WinD.win (h:WinD a to k data):Win a to k:=zGk h.k0 h.k1
theorem WinD.row (h:WinD a to k data) {r:Int} (r0:k*zc9 a to≤r) (r1:r < (k+1)*zc9 a to):Row to (rowW a to k data r)∧zcI to r=true:=by
 have hW:=h.win;have:=hW.r0;have:=hW.r1;have hyw:=zca hW.yok;have hl:=h.len
 refine ⟨⟨by simp [rowW]; omega,fun x hx=>?_⟩,zbJ.2 ⟨hW.yok,by omega,by omega⟩⟩
 obtain ⟨j,hj,rfl⟩:=List.mem_map.1 hx;have hj:=List.mem_range.1 hj
 obtain ⟨n0,n1⟩:=zFN hW r0 r1 (j:=(j:Int)) (by omega) (by omega)
 exact h.sec _ (zd1 (by omega))
variable {B:Ben} {live:List Bool}
end
section
variable {U V:Tb} {b:Nat} {idx:List Nat} {B:Ben} {n:Nat} {K:Int}
theorem zHN (T0 T1:Tb) {n:Nat} (h0:1≤n) (h8:n≤8):∃ U V idx,
  zbx [.int .i64 n] [T0,T1]=some (Ans.mk (.tup [.h kB T0.length 0,.int .i64 0]) [] [P0 U T0.length idx (Ben.new n),P1 V idx (Ben.new n)])∧
  Run U V T0.length idx (Ben.new n) n 0∧Still (Ben.new n):=
 ⟨_,_,_,zIZ T0 T1 h0 h8,⟨zD0 T0 T1 h8,by simp [Ben.new,Ben.n],rfl,rfl,Int.le_refl _⟩,zyw h8⟩
theorem zD7 {live:List Bool} {a to:Geo} {k:Int} (k0:0≤k) (k1:k < winP a to) (v:Int→List Int) (hv:∀ m,(ze5 a to k).1≤m→m < (ze5 a to k).2→B.wOne live a m=(v m,0)):
  B.wRead live a to k=((List.range ((ze5 a to k).2 - (ze5 a to k).1).toNat).map fun (j:Nat)=>v ((ze5 a to k).1+j),0):=by
 have key:∀ (m j:Nat) (acc:List (List Int)),j+m=((ze5 a to k).2 - (ze5 a to k).1).toNat→runE (B.wStep live a (ze5 a to k).1) j m acc=(0,acc++(List.range' j m).map fun (j:Nat)=>v ((ze5 a to k).1+j)):=by
  intro m
  induction m with
  | zero=>intro j acc _; simp [runE]
  | succ m ih=>
   intro j acc hj
   have h1:=hv ((ze5 a to k).1+j) (by omega) (by omega)
   have:B.wStep live a (ze5 a to k).1 j acc=(0,acc++[v ((ze5 a to k).1+j)]):=by unfold Ben.wStep; rw [h1,if_pos rfl]
   unfold runE
   rw [this,if_pos rfl,ih (j+1) _ (by omega),List.range'_succ]
   simp
 unfold Ben.wRead Ben.wGo
 rw [zFO.2 ⟨k0,k1⟩,if_neg (by simp),key _ 0 [] (by omega),List.range_eq_range']
 simp
end
end Wf

namespace Wf
open Go Go.RowKit Go.Proofs
set_option linter.unusedSimpArgs false
set_option linter.unusedVariables false
set_option maxHeartbeats 4000000
end Wf

namespace Wf
open Go Go.RowKit Go.Proofs
set_option linter.unusedSimpArgs false
set_option linter.unusedVariables false
set_option maxHeartbeats 4000000
section
variable {B:Ben}
theorem Like.lostN {B':Ben} (h:Like B B') (live:List Bool) (g:Geo):B'.lostN live g=B.lostN live g:=by unfold Ben.lostN; simp only [h.up]
end
section
variable {U V:Tb} {b:Nat} {idx:List Nat} {B:Ben} {n:Nat} {K:Int}
end
end Wf

namespace Wf
open Go Go.RowKit Go.Proofs
set_option linter.unusedSimpArgs false
set_option linter.unusedVariables false
set_option maxHeartbeats 4000000
section
variable {T:Tb} {i:Nat} {s:DS}
end
section
variable {B:Ben}
end
section
variable {T0 T1:Tb} {b:Nat} {idx:List Nat} {B:Ben}
end
end Wf

namespace Wf
open Go Go.RowKit Go.Proofs
set_option linter.unusedSimpArgs false
set_option linter.unusedVariables false
set_option maxHeartbeats 4000000
section
variable {T0 T1:Tb} {b:Nat} {idx:List Nat} {B:Ben}
structure Aside (U V:Tb) (b:Nat) (idx:List Nat) (b2:Nat) (idx2:List Nat) (C:Ben):Prop where
 ne:b2≠b
 lt:b2 < U.length
 row:U[b2]? =some (bRow C idx2)
 nd:idx2.Nodup
 len:idx2.length=C.ds.length
 ok:C.Ok
 g:C.g=[]
 dis:∀ i∈idx2,i ∉ idx
 cells:∀ (j i:Nat) (c:List D),idx2[j]? =some i→(C.ds.map DS.cells)[j]? =some c→V[i]? =some c
theorem Aside.vlt {U V:Tb} {b:Nat} {idx:List Nat} {b2:Nat} {idx2:List Nat} {C:Ben} (h:Aside U V b idx b2 idx2 C):∀ i∈idx2,i < V.length:=fun i hi=>by
 obtain ⟨j,hj,rfl⟩:=List.mem_iff_getElem.1 hi
 have h2:=h.cells j idx2[j] ((C.ds.map DS.cells)[j]'(by rw [List.length_map,←h.len]; exact hj)) (List.getElem?_eq_getElem hj) (List.getElem?_eq_getElem _)
 exact (List.getElem?_eq_some_iff.1 h2).1
theorem Aside.at' {U V:Tb} {b:Nat} {idx:List Nat} {b2:Nat} {idx2:List Nat} {C:Ben} (h:Aside U V b idx b2 idx2 C) (B1:Ben):At (P0 U b idx B1) (P1 V idx B1) b2 idx2 C:=by
 have e0:∀ X:Tb,(P0 X b idx B1).length=X.length:=fun X=>zIK
 have e1:∀ X:Tb,(P1 X idx B1).length=X.length+B1.g.length:=fun X=>zIJ
 exact ⟨by rw [e0]; exact h.lt,h.nd,fun i hi=>by rw [e1]; have:=h.vlt i hi; omega,h.len,h.ok⟩
theorem Aside.p0 {U V:Tb} {b:Nat} {idx:List Nat} {b2:Nat} {idx2:List Nat} {C:Ben} (h:Aside U V b idx b2 idx2 C) (B1:Ben):P0 (P0 U b idx B1) b2 idx2 C=P0 U b idx B1:=by
 refine zDi ?_;unfold P0
 rw [List.getElem?_set,if_neg (fun q=>h.ne q.symm)]
 exact h.row
theorem Aside.get {U V:Tb} {b:Nat} {idx:List Nat} {b2:Nat} {idx2:List Nat} {C:Ben} (h:Aside U V b idx b2 idx2 C) (B1:Ben) {i:Nat} (hi:i∈idx2):(P1 V idx B1)[i]? =V[i]? :=by
 unfold P1
 rw [List.getElem?_append_left (by rw [zok]; exact h.vlt i hi),zux _ _ _ (h.dis i hi)]
theorem Aside.p1 {U V:Tb} {b:Nat} {idx:List Nat} {b2:Nat} {idx2:List Nat} {C:Ben} (h:Aside U V b idx b2 idx2 C) (B1:Ben):P1 (P1 V idx B1) idx2 C=P1 V idx B1:=by
 show putL _ _ (C.ds.map DS.cells)++C.g=_;rw [h.g,List.append_nil]
 refine zr9 fun j i c h1 h2=>?_
 rw [h.get B1 (List.mem_of_getElem? h1)];exact h.cells j i c h1 h2
end
section
variable {U V:Tb} {b:Nat} {idx:List Nat} {B:Ben} {n:Nat} {K:Int}
theorem Aside.read {b2:Nat} {idx2:List Nat} {C:Ben} (h:Aside U V b idx b2 idx2 C) (hw:C.w≤1000000) (B1:Ben) (d a:Int):
  zbj [.h kB b2 0,.int .i64 d,.int .i64 a] [P0 U b idx B1,P1 V idx B1]=some (Ans.mk (.tup [.sl .own (uL (C.read d a).1),.int .i64 (C.read d a).2]) [] []):=by
 have:=zDH (h.at' B1) hw d a;rw [h.p0,h.p1] at this;exact this
end
end Wf

namespace Wf
open Go Go.RowKit Go.Proofs
set_option linter.unusedSimpArgs false
set_option linter.unusedVariables false
set_option maxHeartbeats 4000000
section
variable {T0 T1:Tb}
end
end Wf

namespace Wf
open Go Go.RowKit Go.Proofs
set_option linter.unusedSimpArgs false
set_option linter.unusedVariables false
set_option maxHeartbeats 4000000
theorem zD8 (l:List Bool) (i:Nat) (b:Bool):(l.map D.bool).set i (.bool b)=(l.set i b).map D.bool:=by rw [List.map_set]
theorem zFP {B:Ben} {live:List Bool} {g:Geo} {d:Int} (hg:0≤g.d) (h:∀ e:Int,0≤e→e < g.d→e≠d→B.up live e=true):B.lostN live g≤1:=by
 unfold Ben.lostN
 refine zD4 (a:=d.toNat) fun i hi hp=>?_
 by_cases he:(i:Int)=d
 ·omega
 ·rw [h i (by omega) (by omega) he] at hp; cases hp
section
variable {U V:Tb} {b:Nat} {idx:List Nat} {B:Ben} {n:Nat} {K:Int}
end
end Wf

namespace Wf
open Go Go.RowKit Go.Proofs
set_option linter.unusedSimpArgs false
set_option linter.unusedVariables false
set_option maxHeartbeats 4000000
section
variable {U V:Tb} {b:Nat} {idx:List Nat} {B:Ben} {n:Nat} {K:Int}
end
end Wf

namespace Wf
open Go Go.RowKit Go.Proofs
set_option linter.unusedSimpArgs false
set_option linter.unusedVariables false
set_option maxHeartbeats 4000000
section
variable {U V:Tb} {b:Nat} {idx:List Nat} {B:Ben} {n:Nat} {K:Int}
end
end Wf

namespace Wf
open Go Go.RowKit Go.Proofs
set_option linter.unusedSimpArgs false
set_option linter.unusedVariables false
set_option maxHeartbeats 4000000
section
variable {B:Ben}
end
section
variable {T0 T1:Tb} {b:Nat} {idx:List Nat} {B:Ben}
end
end Wf

namespace Wf
open Go Go.RowKit Go.Proofs
set_option linter.unusedSimpArgs false
set_option linter.unusedVariables false
set_option maxHeartbeats 4000000
@[simp] theorem zEn {R:Type} (a b c:D) (f:LfT [.any,.any,.any]→Option R):zaz [.any,.any,.any] [a,b,c] f=f (a,b,c,()):=by rw [zcB,zcB,zcB,zcr]
section
variable {B:Ben} {live:List Bool}
def zHO (g:Geo) (dat:Nat→List (List Int)) (n:Int):List Int:=if g.cap≤n then zff else (dat (rowG g n).toNat).getD (zcP g n).toNat []
end
end Wf

namespace Wf
open Go Go.RowKit Go.Proofs
set_option linter.unusedSimpArgs false
set_option linter.unusedVariables false
set_option maxHeartbeats 4000000
def OldR (B:Ben) (live:List Bool) (a:Geo) (dat:Nat→List (List Int)) (lo:Int):Prop:=
 ∀ r:Nat,r < 16→lo≤r→∀ e:Int,0≤e→e < a.d→B.up live e=true→B.cur e (36+r)=atR a r (dat r) e
def winL (a to:Geo) (dat:Nat→List (List Int)) (k:Int):List (List Int):=(List.range ((ze5 a to k).2 - (ze5 a to k).1).toNat).map fun (j:Nat)=>zHO a dat ((ze5 a to k).1+j)
section
variable {B B1:Ben} {live:List Bool} {a to:Geo} {dat:Nat→List (List Int)} {k:Int}
theorem OldR.mono {lo hi:Int} (h:OldR B live a dat lo) (hl:lo≤hi):OldR B live a dat hi:=fun r r1 r2=>h r r1 (by omega)
theorem OldR.read {lo:Int} (h:OldR B live a dat lo) (k0:0≤k) (k1:k < winP a to) (hlo:lo≤k*zc9 a to) (hR:∀ r:Nat,r < 16→Row a (dat r)) (hdn:B.down=false) (hlost:(B.lostN live a:Int)≤a.l - 4):
  B.wRead live a to k=(winL a to dat k,0):=by
 have hW:=zGk k0 k1;have hs0:=hW.s0
 refine zD7 k0 k1 (zHO a dat) fun n n0 n1=>?_
 unfold Ben.wOne zHO
 by_cases hc:a.cap≤n
 ·rw [if_pos hc,if_pos hc]
 ·rw [if_neg hc,if_neg hc]
  have hlt:n < a.cap:=by omega
  obtain ⟨hf,c0,c1,_⟩:=zgE (show 0≤n by omega) hlt
  obtain ⟨hk,r0,r1⟩:=zbJ.1 hf;have ho:=zHM hW n0 hlt
  have e:(((rowG a n).toNat:Nat):Int)=rowG a n:=by omega
  rw [zHl (by omega) hlt (hR (rowG a n).toNat (by omega)) hdn fun d d0 d1 hu=>by
   have:=h (rowG a n).toNat (by omega) (by omega) d d0 d1 hu
   rw [e] at this; exact this]
  rw [if_pos (.inr hlost)]
end
end Wf

namespace Wf
open Go Go.RowKit Go.Proofs
set_option linter.unusedSimpArgs false
set_option linter.unusedVariables false
set_option maxHeartbeats 4000000
structure MvS (U V:Tb) (b:Nat) (idx:List Nat) (n:Nat) (live:List Bool) (a:Geo) (dat:Nat→List (List Int)) (lo:Int) (K:Int) (C:Ben):Prop where
 run:Run U V b idx C n K
 old:OldR C live a dat lo
 lost:(C.lostN live a:Int)≤a.l - 4
section
variable {U V:Tb} {b:Nat} {idx:List Nat} {n:Nat} {live:List Bool} {a to:Geo} {dat:Nat→List (List Int)} {lo K k:Int} {C:Ben}
end
end Wf

namespace Wf
open Go Go.RowKit Go.Proofs
set_option linter.unusedSimpArgs false
set_option linter.unusedVariables false
section
variable {g:Geo} {dat:Nat→List (List Int)}
end
end Wf

namespace Wf
open Go Go.RowKit Go.Proofs
set_option linter.unusedSimpArgs false
set_option linter.unusedVariables false
set_option maxHeartbeats 4000000
def crcB (x:Int):Int:=if bits .and .u32 x 1=1 then bits .xor .u32 (Int.fdiv x 2) 2197175160 else Int.fdiv x 2
def crcI (x:Int):Nat→Int
 | 0=>x
 | k+1=>crcB (crcI x k)
def crcC (x c:Int):Int:=crcI (bits .xor .u32 x (IntKind.u32.wrap c)) 8
def crcP (x:Int) (p:List Int):Int:=p.foldl crcC x
def crcS (ps:List (List Int)):Int:=bits .xor .u32 (ps.foldl crcP 4294967295) 4294967295
theorem zBP {α β:Type} (f:β→α→β) (b:β) {l:List α} {k:Nat} {a:α} (h:l[k]? =some a):(l.take (k+1)).foldl f b=f ((l.take k).foldl f b) a:=by
 rw [List.take_add_one,h]; simp
theorem zcZ {k:Nat} (h:k < 1000000000):IntKind.i64.wrap ((k:Int)+1)=((k+1:Nat):Int):=by rw [zav (by omega) (by omega)]; omega
theorem zFQ (tg:Tag) (ps:List Part) (hn:ps.length < 100000) (hl:∀ x∈ps,x.2.length < 100000):zd8 [.sl tg (pL ps)]=some (.int .u32 (crcS (ps.map (·.2)))):=by
 rw [zyc,zdb]
 have hlen:(ps.map fun x=>(zbT x.1 x.2,x.2)).length=ps.length:=by simp
 have hm:(ps.map fun x=>(zbT x.1 x.2,x.2)).map (·.2)=ps.map (·.2):=by rw [List.map_map]; rfl
 have hl':∀ x∈(ps.map fun x=>(zbT x.1 x.2,x.2)),x.2.length < 100000:=by intro x hx; obtain ⟨y,hy,rfl⟩:=List.mem_map.1 hx; exact hl y hy
 rw [←hlen] at hn;rw [←hm]
 generalize (ps.map fun x=>(zbT x.1 x.2,x.2))=rs at*
 clear hm hlen hl ps;unfold zsB;rw [zeA]
 let st:Nat→(Int×List D×Int×Int×PUnit)×PUnit:=fun k=>((((rs.take k).map (·.2)).foldl crcP 4294967295,pL rs,(rs.length:Int),(k:Int),PUnit.unit),PUnit.unit)
 show zb2 _ (st 0)=_
 refine zcp st rs.length (by omega) ?_ ?_
 ·intro again k hk;dsimp only [st];have hg:rs[k]? =some rs[k]:=List.getElem?_eq_getElem hk;have hpl:=hl' rs[k] (List.getElem_mem hk)
  have hk2:(k:Int) < (rs.length:Int):=by omega
  rw [decide_eq_true hk2,zaI,zaa (by omega),Int.toNat_natCast,zap (zc7 hg),zdi]
  have e:((rs.take (k+1)).map (·.2)).foldl crcP 4294967295=crcP (((rs.take k).map (·.2)).foldl crcP 4294967295) rs[k].2:=by rw [List.take_add_one,hg,List.map_append,List.foldl_append]; rfl
  rw [e]
  generalize ((rs.take k).map (·.2)).foldl crcP 4294967295=x
  generalize rs[k].2=p at*
  let su:Nat→(Int×List D×Int×Int×(Tag×List D)×Int×Int×PUnit)×PUnit:=fun j=>(((p.take j).foldl crcC x,pL rs,(rs.length:Int),(k:Int),(rs[k].1,uL p),(p.length:Int),(j:Int),PUnit.unit),PUnit.unit)
  rw [zcC];show zb2 _ (su 0)=_
  refine zcp su p.length (by omega) ?_ ?_
  ·intro again2 j hj;dsimp only [su];have hg2:p[j]? =some p[j]:=List.getElem?_eq_getElem hj
   have hj2:(j:Int) < (p.length:Int):=by omega
   rw [decide_eq_true hj2,zaI,zaa (by omega),Int.toNat_natCast,zap (zj9 hg2),zaR,zam,zam,zBP crcC _ hg2]
   generalize (p.take j).foldl crcC x=y;generalize p[j]=c
   let sv:Nat→(Int×List D×Int×Int×(Tag×List D)×Int×Int×Int×PUnit)×PUnit:=fun i=>((crcI (bits .xor .u32 y (IntKind.u32.wrap c)) i,pL rs,(rs.length:Int),(k:Int),(rs[k].1,uL p),(p.length:Int),(j:Int),(i:Int),PUnit.unit),PUnit.unit)
   show zb2 _ (sv 0)=_
   refine zcp sv 8 (by omega) ?_ ?_
   ·intro again3 i hi;dsimp only [sv]
    have hi2:(i:Int) < 8:=by omega
    have hw:=zcZ (k:=i) (by omega)
    rw [decide_eq_true hi2,zaI,zam,zam];show _=again3 ((crcB (crcI _ i),_,_,_,_,_,_,_,_),_);unfold crcB
    by_cases h1:bits .and .u32 (crcI (bits .xor .u32 y (IntKind.u32.wrap c)) i) 1=1
    ·rw [zkV h1,if_pos h1,zam,zam,hw]
    ·rw [zqo h1,if_neg h1,zam,hw]
   ·intro again3;dsimp only [sv]
    rw [zgG (by omega),zam,zcZ (by omega)]
    rfl
  ·intro again2;dsimp only [su]
   rw [zgG (by omega),zam,zcZ (by omega),List.take_length]
   rfl
 ·intro again;dsimp only [st]
  rw [zgG (by omega),zam,List.take_length]
  rfl
structure Itm where
 d:Int
 a:Int
 x:List Int
def Itm.D (t:Tag) (i:Itm):Wf.D:=.agg [.int .i64 i.d,.int .i64 i.a,.sl t (uL i.x)]
def iL (t:Tag) (is:List Itm):List D:=is.map (Itm.D t)
def Itm.ok (i:Itm):Bool:=decide (0≤i.d) && (decide (i.d < 8) && (decide (36≤i.a) && (decide (i.a < 52) && ((i.x.length:Int) == 32))))
def Itm.same (y x:Itm):Bool:=y.d == x.d && y.a == x.a
def zwG (t:Tag):Prop:=∀ l,(D.sl t l).lent=.sl .lent (D.lentL l)
theorem zhc:zwG .lent:=fun l=>by simp [D.lent]
theorem zsX:zwG .fresh:=fun l=>by simp [D.lent]
theorem zp7 {t:Tag} (h:zwG t) (is:List Itm):D.lentL (iL t is)=iL .lent is:=by
 unfold iL;rw [ziP,List.map_map];apply List.map_congr_left;intro i _;show D.lent (Itm.D t i)=Itm.D .lent i;unfold Itm.D;have:=h (uL i.x);rw [zcN] at this;simp only [D.lent,zBp,zCY,zEQ,this]
@[simp] theorem zuT (t:Tag) (is:List Itm):(iL t is).length=is.length:=by simp [iL]
theorem zAR {t:Tag} {is:List Itm} {k:Nat} {i:Itm} (h:is[k]? =some i):(iL t is)[k]? =some (.agg [.int .i64 i.d,.int .i64 i.a,.sl t (uL i.x)]):=by simp [iL,h,Itm.D]
theorem zFR (t:Tag) (is:List Itm):zqE 3 (iL t is)=true:=by simp [zqE,iL,Itm.D,D.cell,D.isAgg,D.width]
theorem zI8 {t:Tag} {is:List Itm} {k:Nat}:cutI 0 (k:Int) (iL t is)=iL t (is.take k):=by simp [cutI,iL,List.map_take]
theorem record_fine (t:Tag) (i:Itm):zcn [.agg [.int .i64 i.d,.int .i64 i.a,.sl t (uL i.x)]]=some (.bool i.ok):=by
 rw [zqX,zcN];unfold zj1 Itm.ok;rw [zcC]
 by_cases h1:0≤i.d<;>by_cases h2:i.d < 8<;>by_cases h3:36≤i.a<;>by_cases h4:i.a < 52<;>simp [h1,h2,h3,h4]
theorem zwH (t:Tag) (y x:Itm):za0 [.agg [.int .i64 y.d,.int .i64 y.a,.sl t (uL y.x)],.at_ (.agg [.int .i64 x.d,.int .i64 x.a,.sl .lent (uL x.x)])]=some (.bool (y.same x)):=by
 rw [znw];unfold zgL Itm.same
 by_cases h:y.d=x.d
 ·rw [zkV h]; simp [h]
 ·rw [zqo h]; simp [h]
theorem zwI (tg:Tag) {t:Tag} (ht:zwG t) (is:List Itm) (x:Itm) (hn:is.length < 100000):
  ∃ r,zan [.sl tg (iL t is),.fn ID.record_Check_1 [] [.at_ (.agg [.int .i64 x.d,.int .i64 x.a,.sl .lent (uL x.x)])]]=some r∧∃ i:Int,r=.int .i64 i∧decide (i≥0)=is.any fun y=>y.same x:=by
 rw [zds,zp7 ht,zcN];unfold zbN;rw [zuT]
 refine zvF (fun a=>(is.length:Int).toNat - a.1.2.2.2.1.toNat) _ (fun a=>∃ k:Nat,k≤is.length∧((is.take k).any fun y=>y.same x)=false∧
  a=((iL .lent is,D.agg [D.int IntKind.i64 x.d,D.int IntKind.i64 x.a,D.sl Tag.lent (uL x.x)],(is.length:Int),(k:Int),PUnit.unit),PUnit.unit)) ?_ ⟨0,by omega,rfl,rfl⟩ (by simp; omega)
 rintro again _ ⟨k,hk,hf,rfl⟩ ih
 dsimp only
 by_cases hl:k < is.length
 ·have hg:is[k]? =some is[k]:=List.getElem?_eq_getElem hl
  have hk2:(k:Int) < (is.length:Int):=by omega
  rw [decide_eq_true hk2,zaI,zaa (by omega),Int.toNat_natCast,zap (zAR hg),zet,zch,zch,zga,zcr]
  dsimp only;rw [zwH,zab,zbo];cases hs:is[k].same x
  ·rw [zas,zam,zcZ (by omega)]
   refine ih _ ⟨k+1,by omega,?_,rfl⟩ (by dsimp only; omega)
   rw [List.take_add_one,hg,List.any_append,hf];simp [hs]
  ·rw [zaI];refine ⟨_,rfl,(k:Int),rfl,?_⟩;rw [List.any_eq_true.2 ⟨is[k],List.getElem_mem hl,hs⟩];simp
 ·rw [zgG (by omega)]
  refine ⟨_,rfl,-1,rfl,?_⟩
  rw [List.take_of_length_le (by omega)] at hf
  rw [hf]; rfl
theorem zqZ (tg:Tag) {t:Tag} (ht:zwG t) (is:List Itm) (x:Itm) (hn:is.length < 100000):
  zak [.sl tg (iL t is),.fn ID.record_Check_1 [] [.at_ (.agg [.int .i64 x.d,.int .i64 x.a,.sl .lent (uL x.x)])]]=some (.bool (is.any fun y=>y.same x)):=by
 rw [zda,zp7 ht,zcN];unfold zbz;obtain ⟨r,h1,i,rfl,h2⟩:=zwI .lent zhc is x hn;rw [h1,zab,zaR,h2]
def zeD (is:List Itm):Nat→Bool
 | 0=>true
 | k+1=>zeD is k && match is[k]? with
  | some x=>x.ok && !((is.take k).any fun y=>y.same x)
  | none=>true
def recE (seq:Int) (is:List Itm):Int:=if seq < 1∨2147483647 < seq∨3 < is.length∨zeD is is.length=false then 1 else 0
theorem zuU {is:List Itm}:∀ {n k:Nat},k≤n→zeD is k=false→zeD is n=false
 | 0,k,h,hf=>by rwa [show k=0 by omega] at hf
 | n+1,k,h,hf=>by
  by_cases e:k=n+1
  ·rwa [e] at hf
  ·unfold zeD; rw [zuU (n:=n) (by omega) hf]; rfl
theorem zqB (tg:Tag) {t:Tag} (ht:zwG t) (seq:Int) (is:List Itm):zbc [.agg [.int .i64 seq,.sl tg (iL t is)]]=some (.int .i64 (recE seq is)):=by
 rw [zpU,zp7 ht];unfold zix recE;rw [zuT]
 by_cases h1:seq < 1
 ·rw [zob h1,if_pos (.inl h1)]
 rw [zgG h1]
 by_cases h2:2147483647 < seq
 ·rw [zob (by omega),if_pos (.inr (.inl h2))]
 rw [zgG (by omega)]
 by_cases h3:3 < is.length
 ·rw [zob (by omega),if_pos (.inr (.inr (.inl h3)))]
 rw [zgG (by omega)]
 refine zgb (fun a=>is.length - a.1.2.2.2.1.toNat) (fun _=>some (D.int .i64 (if seq < 1∨2147483647 < seq∨3 < is.length∨zeD is is.length=false then 1 else 0))) (fun a=>∃ k:Nat,k≤is.length∧zeD is k=true∧
   a=(((seq,iL .lent is,PUnit.unit),iL .lent is,(is.length:Int),(k:Int),PUnit.unit),PUnit.unit)) ?_ ⟨0,by omega,rfl,rfl⟩ (by simp; omega)
 rintro again _ ⟨k,hk,hf,rfl⟩ ih
 dsimp only
 by_cases hl:k < is.length
 ·have hg:is[k]? =some is[k]:=List.getElem?_eq_getElem hl
  have hk2:(k:Int) < (is.length:Int):=by omega
  have hs:zeD is (k+1)=(is[k].ok && !((is.take k).any fun y=>y.same is[k])):=by
   show (zeD is k && match is[k]? with | some x=>x.ok && !((is.take k).any fun y=>y.same x) | none=>true)=_
   rw [hf,hg]; rfl
  have hbad:zeD is (k+1)=false→(if seq < 1∨2147483647 < seq∨3 < is.length∨zeD is is.length=false then (1:Int) else 0)=1:=fun h=>if_pos (.inr (.inr (.inr (zuU (by omega) h))))
  rw [decide_eq_true hk2,zaI,zaa (by omega),Int.toNat_natCast,zap (zAR hg),zet,zch,zch,zga,zcr]
  dsimp only;rw [record_fine,zab,zbo];cases ho:is[k].ok
  ·rw [Bool.not_false,zaI,hbad (by rw [hs,ho]; rfl)]
  rw [Bool.not_true,zas,zaa (by omega),zaa (by rw [zuT]; omega),zaa rfl,zaa (zFR _ _),zI8,zqZ _ zhc _ _ (by simp; omega),zab,zbo]
  cases hc:(is.take k).any fun y=>y.same is[k]
  ·rw [zas,zam,zcZ (by omega)]
   exact ih _ ⟨k+1,by omega,by rw [hs,ho,hc]; rfl,rfl⟩ (by dsimp only; omega)
  ·rw [zaI,hbad (by rw [hs,ho,hc]; rfl)]
 ·have:k=is.length:=by omega
  subst this
  rw [zgG (by omega),if_neg (by rw [hf]; simp; omega)]
theorem zFS (l:List Int):zqE 1 (uL l)=true:=by simp [zqE,uL,D.cell,D.width]
theorem zyz (ps:List Part):zec 1 (pL ps)=true:=by simp [zec,pL,D.cell,D.width]
theorem zFT (tg tg2:Tag) {h:List Int} (hh:h.length=32) {ps:List Part} (h0:ps≠[]) (hn:ps.length < 90000) (hl:∀ x∈ps,x.2.length < 100000):zd9 [.sl tg (uL h),.sl tg2 (pL ps)]=some (.int .u32 (crcS (h.take 28::ps.map (·.2)))):=by
 rw [zye,zdb,zcN]
 have hlen:(ps.map fun x=>(zbT x.1 x.2,x.2)).length=ps.length:=by simp
 have hm:(ps.map fun x=>(zbT x.1 x.2,x.2)).map (·.2)=ps.map (·.2):=by rw [List.map_map]; rfl
 have hl':∀ x∈(ps.map fun x=>(zbT x.1 x.2,x.2)),x.2.length < 100000:=by intro x hx; obtain ⟨y,hy,rfl⟩:=List.mem_map.1 hx; exact hl y hy
 have h0':(ps.map fun x=>(zbT x.1 x.2,x.2))≠[]:=by intro q; rw [List.map_eq_nil_iff] at q; exact h0 q
 rw [←hlen] at hn;rw [←hm]
 generalize (ps.map fun x=>(zbT x.1 x.2,x.2))=rs at*
 clear hm hlen hl ps h0;unfold zsD
 have hc:cutI 0 28 (uL h)=uL (h.take 28):=by unfold cutI; rw [←zr2]; rfl
 have hs:∀ b,zdP Tag.lent true b=.lent:=fun _=>rfl
 have hp:[D.sl Tag.lent (uL (h.take 28))]++pL rs=pL ((Tag.lent,h.take 28)::rs):=rfl
 have hne:pL rs≠[]:=by unfold pL; rw [ne_eq,List.map_eq_nil_iff]; exact h0'
 have hcut:cut 0 (1+(pL rs).length) (pL ((Tag.lent,h.take 28)::rs))=pL ((Tag.lent,h.take 28)::rs):=by
  have e:1+(pL rs).length=(pL ((Tag.lent,h.take 28)::rs)).length:=by rw [zeA,zeA,List.length_cons]; omega
  rw [e,zb5]
 rw [zaa (by rw [zcC]; omega),zaa (zFS h),zaa hne,zaa (by rw [zeA]; omega),zaa (zyz rs),hs,hc,hp,zaa (by rw [zeA,zeA,List.length_cons]; omega),hcut,
  zFQ .lent _ (by rw [List.length_cons]; omega) (by
   intro x hx;rcases List.mem_cons.1 hx with rfl | hx
   ·simp; omega
   ·exact hl' x hx),zab,zaR]
 rfl
def ztM (h:List Int) (ps:List (List Int)):List Int:=
 (((h.set 28 (IntKind.u8.wrap (Int.fdiv (crcS (h.take 28::ps)) 16777216))).set 29 (IntKind.u8.wrap (Int.fdiv (crcS (h.take 28::ps)) 65536))).set 30 (IntKind.u8.wrap (Int.fdiv (crcS (h.take 28::ps)) 256))).set 31 (IntKind.u8.wrap (Int.fdiv (crcS (h.take 28::ps)) 1))
theorem zyA {h:List Int} (hh:Sec h) (ps:List (List Int)):Sec (ztM h ps):=by
 refine ⟨by unfold ztM; simp [hh.len],fun n hn=>?_⟩
 unfold ztM at hn;rcases List.mem_or_eq_of_mem_set hn with hn | rfl
 ·rcases List.mem_or_eq_of_mem_set hn with hn | rfl
  ·rcases List.mem_or_eq_of_mem_set hn with hn | rfl
   ·rcases List.mem_or_eq_of_mem_set hn with hn | rfl
    ·exact hh.byt n hn
    ·exact zfD _
   ·exact zfD _
  ·exact zfD _
 ·exact zfD _
theorem zFU (tg:Tag) {h:List Int} (hh:h.length=32) {ps:List Part} (h0:ps≠[]) (hn:ps.length < 90000) (hl:∀ x∈ps,x.2.length < 100000):zdC [.sl .own (uL h),.sl tg (pL ps)] []=some (Ans.mk (.bool true) [uL (ztM h (ps.map (·.2)))] []):=by
 rw [zwr,zdb]
 have hlen:(ps.map fun x=>(zbT x.1 x.2,x.2)).length=ps.length:=by simp
 have hm:(ps.map fun x=>(zbT x.1 x.2,x.2)).map (·.2)=ps.map (·.2):=by rw [List.map_map]; rfl
 have hl':∀ x∈(ps.map fun x=>(zbT x.1 x.2,x.2)),x.2.length < 100000:=by intro x hx; obtain ⟨y,hy,rfl⟩:=List.mem_map.1 hx; exact hl y hy
 have h0':(ps.map fun x=>(zbT x.1 x.2,x.2))≠[]:=by intro q; rw [List.map_eq_nil_iff] at q; exact h0 q
 rw [←hlen] at hn;rw [←hm]
 generalize (ps.map fun x=>(zbT x.1 x.2,x.2))=rs at*
 clear hm hlen hl ps h0;unfold zpV
 have g:∀ (l:List Int) (i:Nat),l.length=32→i < 32→∀ f:D→Option Ans,getK (uL l) i f=f (.int .u8 (getB l i)):=fun l i hl hi f=>zap (zj9 (zkX (by omega))) f
 have ia:∀ n:Int,D.isAgg (.int .u8 n)=false:=fun _=>rfl
 rw [zaa (by omega),zcC,zfX (by omega),zaa (by omega)]
 rw [show cut 0 h.length (uL h)=uL h from zlG (zcC h),zFT .lent .lent hh h0' hn hl',zab,zaR]
 unfold ztM
 generalize crcS (h.take 28::rs.map (·.2))=c
 rw [zam,zam,zaa (by omega),g _ _ hh (by omega),zaa (ia _),zam,zam,zaa (by omega),zr3,g _ _ (by simp [hh]) (by omega),zaa (ia _),zam,zam,zaa (by omega),zr3,g _ _ (by simp [hh]) (by omega),zaa (ia _),
  zam,zam,zaa (by omega),zr3,g _ _ (by simp [hh]) (by omega),zaa (ia _),zr3,zaa (zus _)]
def zmC (seq:Int) (n:Nat) (is:List Itm):List Int:=[87,82,69,67,IntKind.u8.wrap (Int.fdiv seq 16777216),IntKind.u8.wrap (Int.fdiv seq 65536),IntKind.u8.wrap (Int.fdiv seq 256),IntKind.u8.wrap seq,IntKind.u8.wrap (n:Int)]++is.flatMap fun i=>[IntKind.u8.wrap i.d,IntKind.u8.wrap i.a]
def zsY (seq:Int) (is:List Itm):List Int:=zmC seq is.length is++List.replicate (32 - (zmC seq is.length is).length) 0
def zhT (is:List Itm):List (List Int):=is.map (·.x)++List.replicate (3 - is.length) zff
def encR (seq:Int) (is:List Itm):List (List Int):=ztM (zsY seq is) (zhT is)::zhT is
theorem zsZ (seq:Int) (n:Nat) (is:List Itm):(zmC seq n is).length=9+2*is.length:=by
 unfold zmC;rw [List.length_append]
 have:(is.flatMap fun i=>[IntKind.u8.wrap i.d,IntKind.u8.wrap i.a]).length=2*is.length:=by
  induction is with
  | nil=>rfl
  | cons i is ih=>rw [List.flatMap_cons,List.length_append,ih,List.length_cons]; simp; omega
 rw [this]; simp
theorem zD9 (seq:Int) (n:Nat) (is:List Itm):∀ x∈zmC seq n is,0≤x∧x < 256:=by
 intro x hx;unfold zmC at hx;rcases List.mem_append.1 hx with hx | hx
 ·simp only [List.mem_cons,List.not_mem_nil,or_false] at hx;rcases hx with rfl | rfl | rfl | rfl | rfl | rfl | rfl | rfl | rfl
  ·omega
  ·omega
  ·omega
  ·omega
  all_goals exact zfD _
 ·obtain ⟨i,_,hx⟩:=List.mem_flatMap.1 hx;simp only [List.mem_cons,List.not_mem_nil,or_false] at hx;rcases hx with rfl | rfl<;>exact zfD _
theorem zs0 (seq:Int) {is:List Itm} (h:is.length≤3):Sec (zsY seq is):=by
 have hl:=zsZ seq is.length is
 refine ⟨by unfold zsY; simp; omega,fun x hx=>?_⟩
 rcases List.mem_append.1 hx with hx | hx
 ·exact zD9 _ _ _ x hx
 ·rw [(List.mem_replicate.1 hx).2]; omega
theorem zuV {is:List Itm} (h:is.length≤3):(zhT is).length=3:=by unfold zhT; simp; omega
theorem zuW {is:List Itm} (h:∀ i∈is,Sec i.x):∀ x∈zhT is,Sec x:=by
 intro x hx;rcases List.mem_append.1 hx with hx | hx
 ·obtain ⟨i,hi,rfl⟩:=List.mem_map.1 hx; exact h i hi
 ·rw [(List.mem_replicate.1 hx).2]; exact ziX
theorem zrd (seq:Int) {is:List Itm} (h:is.length≤3):(encR seq is).length=4:=by unfold encR; rw [List.length_cons,zuV h]
theorem zwJ (seq:Int) {is:List Itm} (h:is.length≤3) (hs:∀ i∈is,Sec i.x):∀ x∈encR seq is,Sec x:=by
 intro x hx;rcases List.mem_cons.1 hx with rfl | hx
 ·exact zyA (zs0 seq h) _
 ·exact zuW hs x hx
theorem zl7 {seq:Int} {is:List Itm} (h:recE seq is=0):is.length≤3∧1≤seq∧seq≤2147483647:=by
 unfold recE at h;split at h
 ·cases h
 ·omega
theorem zwK (tg:Tag) {t:Tag} (ht:zwG t) (seq:Int) {is:List Itm} (hs:∀ i∈is,Sec i.x):
  zbX [.agg [.int .i64 seq,.sl tg (iL t is)]]=some (.tup [.sl .own (pL (fP (if recE seq is=0 then encR seq is else []))),.int .i64 (recE seq is)]):=by
 rw [zoV,zp7 ht];unfold zhO;rw [zqB .lent zhc,zab,zaR]
 by_cases he:recE seq is=0
 rotate_left
 ·rw [zqp he,if_neg he]; rfl
 rw [zfX he,if_pos he,he];obtain ⟨h3,_,_⟩:=zl7 he;rw [zam,zam,zam,zam,zam,zam,zam,zam,zuT]
 let st:Nat→(List D×List D×List D×Int×Int×PUnit)×PUnit:=fun k=>((uL (zmC seq is.length (is.take k)),pL (fP ((is.take k).map (·.x))),iL .lent is,(is.length:Int),(k:Int),PUnit.unit),PUnit.unit)
 show zb2 _ (st 0)=_
 refine zcp st is.length (by omega) ?_ ?_
 ·intro again k hk;dsimp only [st];have hg:is[k]? =some is[k]:=List.getElem?_eq_getElem hk
  have hk2:(k:Int) < (is.length:Int):=by omega
  have hx:=(hs _ (List.getElem_mem hk)).len
  have e1:zmC seq is.length (is.take (k+1))=zmC seq is.length (is.take k)++[IntKind.u8.wrap is[k].d,IntKind.u8.wrap is[k].a]:=by
   unfold zmC; rw [List.take_add_one,hg,List.flatMap_append,List.append_assoc]; rfl
  have e2:(is.take (k+1)).map (·.x)=(is.take k).map (·.x)++[is[k].x]:=by rw [List.take_add_one,hg,List.map_append]; rfl
  have l1:=zsZ seq is.length (is.take k)
  have l2:(is.take k).length=k:=by simp; omega
  rw [l2] at l1
  have u1:∀ a b:Int,uL (zmC seq is.length (is.take k))++[D.int .u8 a,D.int .u8 b]=uL (zmC seq is.length (is.take k)++[a,b]):=fun a b=>by simp [uL]
  rw [decide_eq_true hk2,zaI,zaa (by omega),Int.toNat_natCast,zap (zAR hg),zet,zch,zch,zga,zcr]
  dsimp only
  rw [zam,zam,zaa (by rw [zcC]; omega),zaa rfl,znG (by omega),zab,zbA,zaa (by omega),zaa (by rw [zeA,zij]; simp; omega),zaa rfl,zam,zcZ (by omega),u1,zb5,zzI,e1,e2,
   zaa (by rw [zcC,zcC]; simp),zaa (by rw [zeA,zeA,zij,zij]; simp)]
 ·intro again;dsimp only [st];rw [List.take_length];have l1:=zsZ seq is.length is
  have w1:IntKind.i64.wrap (32 - ((uL (zmC seq is.length is)).length:Int))=((32 - (zmC seq is.length is).length:Nat):Int):=by rw [zcC,zav (by omega) (by omega)]; omega
  have u1:uL (zmC seq is.length is)++List.replicate (32 - (zmC seq is.length is).length) (D.int .u8 0)=uL (zsY seq is):=by unfold zsY; simp [uL]
  have l2:=(zs0 seq h3).len
  rw [zgG (by omega),zaa (by omega),zam,w1,zaa (by omega),Int.toNat_natCast,zaa (by rw [zcC]; omega),zaa rfl,u1,zaa (by rw [zcC,zcC]; omega),zaa rfl]
  let su:Nat→(List D×List D×PUnit)×PUnit:=fun j=>((uL (zsY seq is),pL (fP (is.map (·.x)++List.replicate j zff)),PUnit.unit),PUnit.unit)
  have hsu:su 0=((uL (zsY seq is),pL (fP (is.map (·.x))),PUnit.unit),PUnit.unit):=by simp [su]
  rw [←hsu]
  refine zcp su (3 - is.length) (by omega) ?_ ?_
  ·intro again2 j hj;dsimp only [su]
   have l3:(pL (fP (is.map (·.x)++List.replicate j zff))).length=is.length+j:=by simp
   have z:∀ l:List D,l++[D.sl Tag.fresh (uL zff)]=l++[D.sl Tag.fresh (uL (List.replicate 32 0))]:=fun _=>rfl
   have e2:pL (fP (is.map (·.x)++List.replicate (j+1) zff))=pL (fP (is.map (·.x)++List.replicate j zff))++[D.sl Tag.fresh (uL (List.replicate 32 0))]:=by
    rw [←z,zzI,List.append_assoc,←List.replicate_succ']
   rw [e2]
   rw [zaa (by omega),l3,zob (by omega),zaa (by omega),zaa rfl,zaa rfl]
   rw [zaa (by rw [List.length_append,l3]; rfl)]
   rfl
  ·intro again2;dsimp only [su]
   have hp:is.map (·.x)++List.replicate (3 - is.length) zff=zhT is:=rfl
   rw [hp];have l3:=zuV h3
   have hne:fP (zhT is)≠[]:=by intro q; have:=congrArg List.length q; rw [zij,l3] at this; cases this
   have hsec:=zuW hs
   have l4:(pL (fP (zhT is))).length=3:=by rw [zeA,zij,l3]
   have hseal:=zFU .lent l2 hne (by rw [zij,l3]; omega) (by
    intro x hx; obtain ⟨y,hy,rfl⟩:=List.mem_map.1 hx; have:=(hsec y hy).len; dsimp only; omega)
   rw [zuN] at hseal
   have l5:(uL (ztM (zsY seq is) (zhT is))).length=32:=by rw [zcC]; exact (zyA (zs0 seq h3) _).len
   have hen:[D.sl Tag.fresh (uL (ztM (zsY seq is) (zhT is)))]++pL (fP (zhT is))=pL (fP (encR seq is)):=rfl;have c3:cut 0 3 (pL (fP (zhT is)))=pL (fP (zhT is)):=zlG l4;have c5:cut 0 32 (uL (ztM (zsY seq is) (zhT is)))=uL (ztM (zsY seq is) (zhT is)):=zlG l5
   rw [zaa (by omega),l4,zgG (by omega),zaa rfl,zaa (zus _),zaa (by omega),c3,hseal,zab]
   dsimp only
   rw [zcC,l2,za1,zaa l5,zaF,zaF,zbo,zaa (by omega),zaa (by omega),zaa (by intro q; rw [q] at l4; cases l4),zaa (by omega),zaa (zyz _),c5,hen,zaa (by rw [zeA,zeA,zij,zij,zrd seq h3,l3]),zaa (zgn _)]
end Wf

namespace Wf
open Go Go.RowKit Go.Proofs
set_option linter.unusedSimpArgs false
set_option linter.unusedVariables false
set_option maxHeartbeats 4000000
theorem zuX {α β:Type} (g:α→List β) (L:List α):∀ (l:List α) (s:Nat),(∀ j,j < l.length→L[s+j]? =l[j]?)→((List.range' s l.length).flatMap fun k=>(L[k]?).elim [] g)=l.flatMap g
 | [],s,_=>rfl
 | a::l,s,h=>by
  have h0:=h 0 (by simp)
  rw [Nat.add_zero] at h0;rw [List.length_cons,List.range'_succ,List.flatMap_cons,List.flatMap_cons,h0]
  rw [zuX g L l (s+1) fun j hj=>by
   have:=h (j+1) (by simp; omega)
   rw [show s+1+j=s+(j+1) by omega,this]; rfl]
  rfl
theorem znK {α β:Type} (g:α→List β) (l:List α):((List.range' 0 l.length).flatMap fun k=>(l[k]?).elim [] g)=l.flatMap g:=zuX g l l 0 fun j _=>by rw [Nat.zero_add]
def Ben.onL (B:Ben) (live:List Bool):List Int:=((List.range B.ds.length).filter fun (d:Nat)=>B.up live d).map fun (d:Nat)=>(d:Int)
def Ben.NoF (B:Ben) (live:List Bool):Prop:=∀ d:Int,0≤d→d < B.n→(live[d.toNat]?).getD false=true→B.failed d=false
theorem NoF.up {B:Ben} {live:List Bool} (h:B.NoF live) {d:Int} (d0:0≤d):B.up live d=(decide (d < B.n) && (live[d.toNat]?).getD false):=by
 unfold Ben.up
 by_cases h1:d < B.n
 ·cases h2:(live[d.toNat]?).getD false
  ·simp
  ·rw [h d d0 h1 h2]; simp
 ·simp [h1]
theorem zs1 {B:Ben} {live:List Bool} {d:Int}:d∈B.onL live↔0≤d∧B.up live d=true:=by
 unfold Ben.onL;rw [List.mem_map];constructor
 ·rintro ⟨k,hk,rfl⟩
  exact ⟨by omega,(List.mem_filter.1 hk).2⟩
 ·rintro ⟨d0,hu⟩
  refine ⟨d.toNat,List.mem_filter.2 ⟨List.mem_range.2 ?_,?_⟩,by omega⟩
  ·have:=zyv hu; unfold Ben.n at this; omega
  ·rw [show ((d.toNat:Nat):Int)=d by omega]; exact hu
theorem zhU {B:Ben} {live:List Bool} {d:Int} (h:B.up live d=true):B.failed d=false:=by
 unfold Ben.up at h;simp only [Bool.and_eq_true,Bool.not_eq_true'] at h;exact h.2.2
theorem zHP (B:Ben) (live:List Bool):(B.onL live).map Act.f=B.fActs live:=by
 unfold Ben.onL Ben.fActs;rw [List.map_map];generalize List.range B.ds.length=l
 induction l with
 | nil=>rfl
 | cons k l ih=>
  rw [List.flatMap_cons,List.filter_cons,←ih]
  by_cases h:B.up live (k:Int)=true
  ·rw [if_pos h,if_pos h]; rfl
  ·rw [if_neg h,if_neg h]; rfl
theorem zs2 {l:List Int} {k:Nat} {d:Int} (h:l[k]? =some d):(intL l)[k]? =some (.int .i64 d):=by simp [intL,h]
theorem zBQ (l:List Int):(intL l).all D.free=true:=by
 simp [intL,List.all_eq_true]; intro n _; rfl
theorem zyB {B:Ben} {d a:Int} {x:List Int} (h:B.failed d=false):(B.write d a x).1≠5:=by
 unfold Ben.write;split
 ·unfold Ben.may; split
  ·split<;>simp
  ·simp
 ·rename_i h0;have hd:=(may0.1 (Classical.not_not.1 h0)).1;rw [zhs hd] at h;split
  ·show (putR _ _ _).2≠5;unfold putR DS.may;rw [h]
   by_cases hl:x.length=32<;>by_cases ha:a < 0∨52≤a<;>simp [hl,ha]
  ·split<;>simp
theorem zEa {B:Ben} {d:Int} (h:B.failed d=false):(B.flush d).1≠5:=by
 unfold Ben.flush;split
 ·unfold Ben.may; split
  ·split<;>simp
  ·simp
 ·rename_i h0;have hd:=(may0.1 (Classical.not_not.1 h0)).1;rw [zhs hd] at h;show (DS.flush _).1≠5;unfold DS.flush; rw [h]; simp
theorem log_bad (e:Int):zbO [.int .i64 e]=some (.bool (e != 0 && e != 5)):=by
 rw [zyg];unfold zsI
 by_cases h:e=0
 ·rw [zfX h]; simp [h]
 ·rw [zqp h]; simp [h]
section
variable {T0 T1:Tb} {b:Nat} {idx:List Nat} {B:Ben}
theorem log_is (tg:Tag) (live:List Bool) {d:Int} (d0:0≤d):zcX [.sl tg (live.map D.bool),.int .i64 d]=some (.bool ((live[d.toNat]?).getD false)):=by
 rw [zzy,zeN];unfold zws
 rw [zob (by omega),List.length_map]
 by_cases h:d < live.length
 ·have e:live[d.toNat]? =some (live[d.toNat]'(by omega)):=List.getElem?_eq_getElem (by omega)
  have e':(live.map D.bool)[d.toNat]? =some (.bool (live[d.toNat]'(by omega))):=by simp [e]
  rw [zob h,zaa d0,zap e',zbo,e]; rfl
 ·rw [zgG h,List.getElem?_eq_none (by omega)]; rfl
theorem log_disks (h:At T0 T1 b idx B) (tg:Tag) {live:List Bool} (hf:B.NoF live):zc5 [.h kB b 0,.sl tg (live.map D.bool)] [P0 T0 b idx B]=some (Ans.mk (.sl .own (intL (B.onL live))) [] []):=by
 rw [ztD,zeN];unfold zny;have hsm:=h.ok.small;rw [zzG h,zab];dsimp only;rw [zaF,zaF,zaR]
 let L:Nat→List Int:=fun k=>((List.range k).filter fun (d:Nat)=>B.up live d).map fun (d:Nat)=>(d:Int)
 let st:Nat→(List D×List D×Int×Int×PUnit)×List (List D)×PUnit:=fun k=>((live.map D.bool,intL (L k),B.n,(k:Int),PUnit.unit),P0 T0 b idx B,PUnit.unit)
 have hL:∀ k,(L k).length≤k:=fun k=>by
  show (List.map _ _).length≤k;rw [List.length_map]
  have:=List.length_filter_le (fun (d:Nat)=>B.up live d) (List.range k)
  rw [List.length_range] at this; exact this
 show zb2 _ (st 0)=_
 refine zcp st B.ds.length (by omega) ?_ ?_
 ·intro again k hk;dsimp only [st]
  have hn:(k:Int) < B.n:=by unfold Ben.n; omega
  have hu:=NoF.up hf (d:=(k:Int)) (by omega)
  rw [decide_eq_true hn,Bool.true_and] at hu;have hl:=hL k
  rw [zob hn,log_is .lent live (by omega),zab,zbo,←hu]
  have e:L (k+1)=L k++(if B.up live (k:Int)=true then [(k:Int)] else []):=by
   show List.map _ _=List.map _ _++_;rw [List.range_succ,List.filter_append,List.map_append];congr 1
   by_cases h:B.up live (k:Int)=true
   ·rw [if_pos h,List.filter_cons,if_pos h]; rfl
   ·rw [if_neg h,List.filter_cons,if_neg h]; rfl
  rw [e];cases hv:B.up live (k:Int)
  ·rw [zas,zam,zcZ (by omega),zaa rfl,if_neg (by simp),List.append_nil]
  ·have u:intL (L k)++[D.int .i64 (k:Int)]=intL (L k++[(k:Int)]):=by simp [intL]
   rw [zaI,zaa (by rw [zc8]; omega),zaa rfl,zam,zcZ (by omega),if_pos rfl,u,zaa (by rw [zc8,zc8]; simp)]
 ·intro again;dsimp only [st]
  rw [zgG (by unfold Ben.n; omega),zaa rfl,zaa (zBQ _)]
  rfl
theorem log_flush (h:At T0 T1 b idx B) (hw:B.w≤999000) (tg:Tag) {l:List Int} (hl:l.length < 1000) (hf:∀ d∈l,B.failed d=false):
  zbS [.h kB b 0,.sl tg (intL l)] [P0 T0 b idx B,P1 T1 idx B]=some (Ans.mk (.int .i64 (runA (l.map Act.f) B).1) [] [P1 T1 idx (runA (l.map Act.f) B).2]):=by
 rw [ztE,zkU];unfold znB
 let acts:Nat→List Act:=fun k=>(l[k]?).elim [] fun d=>[.f d]
 have hacts:l.map Act.f=(List.range' 0 l.length).flatMap acts:=by
  have:=znK (fun d=>[Act.f d]) l
  rw [←List.map_eq_flatMap] at this;exact this.symm
 rw [hacts,←zlI]
 let st:Nat→Ben→(Nat×List D×Int×Int×PUnit)×List (List D)×List (List D)×PUnit:=fun k B'=>((b,intL l,(l.length:Int),(k:Int),PUnit.unit),P0 T0 b idx B,P1 T1 idx B',PUnit.unit)
 have hst:st 0 B=((b,intL l,((intL l).length:Int),0,PUnit.unit),P0 T0 b idx B,P1 T1 idx B,PUnit.unit):=by rw [zc8]; rfl
 rw [←hst]
 refine zoj (fun k B'=>runA (acts k) B') (fun k B'=>Nx 0 B B'∧Like B B'∧P0 T0 b idx B'=P0 T0 b idx B) st (fun y=>some (Ans.mk (.int .i64 y.1) [] [P1 T1 idx y.2])) l.length (by omega) ⟨.rfl' h.ok (by omega),.refl B,rfl⟩ ?_ ?_ ?_
 ·rintro k B' hk' ⟨hx,hL,h0⟩ he
  have e:acts k=[.f l[k]]:=by dsimp only [acts]; rw [List.getElem?_eq_getElem hk']; rfl
  rw [e,zl6]
  refine ⟨(hx.trans (zAx hx.ok)).mono (by omega),hL.trans (zuS hx.ok _),?_⟩
  show P0 T0 b idx (B'.flush l[k]).2=_;rw [←h0];unfold Ben.flush;split<;>rfl
 ·rintro again k B' hk' ⟨hx,hL,h0⟩
  dsimp only [st];have hg:l[k]? =some l[k]:=List.getElem?_eq_getElem hk'
  have e:acts k=[.f l[k]]:=by dsimp only [acts]; rw [hg]; rfl
  have hA:=h.nx hx;have hxw:=hx.w
  have hfl:=zHt hA (by omega) l[k]
  rw [h0] at hfl
  have h5:=zEa (B:=B') (d:=l[k]) (by rw [hL.2]; exact hf _ (List.getElem_mem hk'))
  have hk2:(k:Int) < (l.length:Int):=by omega
  rw [e,zl6,decide_eq_true hk2,zaI,zaa (by omega),Int.toNat_natCast,zap (zs2 hg),zaR,hfl,zab]
  dsimp only;rw [zaF,za1,zaF,zaR,log_bad,zab,zbo]
  show brK ((B'.flush l[k]).1 != 0 && (B'.flush l[k]).1 != 5) _ _=if (B'.flush l[k]).1=0 then _ else _
  by_cases he:(B'.flush l[k]).1=0
  ·rw [if_pos he,he];show brK false _ _=_
   rw [zas,zam,zcZ (by omega)]
   rfl
  ·rw [if_neg he,show ((B'.flush l[k]).1 != 0 && (B'.flush l[k]).1 != 5)=true by simp [he,h5],zaI]
   rfl
 ·rintro again B' ⟨hx,hL,h0⟩
  dsimp only [st]
  rw [zgG (by omega)]
def zlL (on:List Int) (l:List (List Int)):List Act:=on.flatMap fun d=>(List.range' 0 l.length).flatMap fun (i:Nat)=>(l[i]?).elim [] fun x=>[Act.w d (2+(i:Int)) x]
def Ben.put (B:Ben) (live:List Bool) (seq:Int) (is:List Itm):Int×Ben:=if recE seq is=0 then runA (zlL (B.onL live) (encR seq is)++B.fActs live) B else (recE seq is,B)
theorem zGl {l:List (List Int)} (h:l.length=4) (d:Int):nW ((List.range' 0 l.length).flatMap fun (i:Nat)=>(l[i]?).elim [] fun x=>[Act.w d (2+(i:Int)) x])=4:=by
 match l,h with
 | [a,b,c,e],_=>rfl
theorem zEb (B:Ben) (live:List Bool):(B.onL live).length≤B.ds.length:=by
 unfold Ben.onL;rw [List.length_map]
 have:=List.length_filter_le (fun (d:Nat)=>B.up live d) (List.range B.ds.length)
 rw [List.length_range] at this; exact this
theorem zEc (h:At T0 T1 b idx B) (hw:B.w≤998000) (tg:Tag) {live:List Bool} (hf:B.NoF live) (tg2:Tag) {t:Tag} (ht:zwG t) (seq:Int) {is:List Itm} (hs:∀ i∈is,Sec i.x):
  zcs [.h kB b 0,.sl tg (live.map D.bool),.agg [.int .i64 seq,.sl tg2 (iL t is)]] [P0 T0 b idx B,P1 T1 idx B]=some (Ans.mk (.int .i64 (B.put live seq is).1) [] [P0 T0 b idx (B.put live seq is).2,P1 T1 idx (B.put live seq is).2]):=by
 rw [zyh,zeN,zp7 ht];unfold zsL Ben.put;rw [zwK .lent zhc seq hs,zab,zeu,zeC];dsimp only;rw [zbA,zaR]
 by_cases he:recE seq is=0
 rotate_left
 ·rw [zqp he,if_neg he]
 rw [zfX he,if_pos he,if_pos he,log_disks h .lent hf,zab];obtain ⟨h3,_,_⟩:=zl7 he;have hel:=zrd seq h3;have hes:=zwJ seq h3 hs;generalize encR seq is=l at*;dsimp only
 rw [zaF,zaF,zbA,zaa (by omega),zaa rfl,zaa rfl,zaa rfl]
 have hol:=zEb B live;have hsm:=h.ok.small
 have hup:∀ d∈B.onL live,B.failed d=false:=fun d hd=>zhU (zs1.1 hd).2
 rw [←zHP];generalize B.onL live=on at*;rw [zjB]
 let sub:Int→Nat→List Act:=fun d i=>(l[i]?).elim [] fun x=>[Act.w d (2+(i:Int)) x]
 let acts:Nat→List Act:=fun k=>(on[k]?).elim [] fun d=>(List.range' 0 l.length).flatMap (sub d)
 have hacts:zlL on l=(List.range' 0 on.length).flatMap acts:=(znK (fun d=>(List.range' 0 l.length).flatMap (sub d)) on).symm
 rw [hacts,←zlI,zc8]
 let st:Nat→Ben→(Nat×List D×List D×Int×Int×PUnit)×List (List D)×List (List D)×PUnit:=fun k B'=>((b,pL (fP l),intL on,(on.length:Int),(k:Int),PUnit.unit),P0 T0 b idx B',P1 T1 idx B',PUnit.unit)
 let fin:Int×Ben→Option Ans:=fun y=>some (Ans.mk (.int .i64 (if y.1=0 then runA (on.map Act.f) y.2 else y).1) [] [P0 T0 b idx (if y.1=0 then runA (on.map Act.f) y.2 else y).2,P1 T1 idx (if y.1=0 then runA (on.map Act.f) y.2 else y).2])
 have hfin:∀ y:Int×Ben,y.1≠0→fin y=some (Ans.mk (.int .i64 y.1) [] [P0 T0 b idx y.2,P1 T1 idx y.2]):=fun y hy=>by dsimp only [fin]; rw [if_neg hy]
 show zb2 _ (st 0 B)=fin (runE _ 0 on.length B)
 have hpl:(pL (fP l)).length=4:=by rw [zeA,zij,hel]
 have ha:∀ k (hk:k < on.length),acts k=(List.range' 0 l.length).flatMap (sub on[k]):=fun k hk=>by dsimp only [acts]; rw [List.getElem?_eq_getElem hk]; rfl
 have hsub:∀ d i (hi:i < l.length),sub d i=[Act.w d (2+(i:Int)) l[i]]:=fun d i hi=>by dsimp only [sub]; rw [List.getElem?_eq_getElem hi]; rfl
 refine zoj (fun k B'=>runA (acts k) B') (fun k B'=>Nx (4*(k:Int)) B B'∧Like B B') st fin on.length (by omega) ⟨.rfl' h.ok (by omega),.refl B⟩ ?_ ?_ ?_
 ·rintro k B' hk' ⟨hx,hL⟩ _
  rw [ha k hk']
  have hsecs:∀ a∈(List.range' 0 l.length).flatMap (sub on[k]),a.sec:=by
   intro a ha;obtain ⟨i,hi,ha⟩:=List.mem_flatMap.1 ha
   have hi':i < l.length:=by have:=List.mem_range'_1.1 hi; omega
   rw [hsub _ _ hi'] at ha;rw [List.mem_singleton.1 ha];exact hes _ (List.getElem_mem hi')
  obtain ⟨n1,n2⟩:=zwF _ hx.ok hsecs;have e4:nW ((List.range' 0 l.length).flatMap (sub on[k]))=4:=zGl hel on[k];rw [e4] at n1
  exact ⟨(hx.trans n1).mono (by omega),hL.trans n2⟩
 ·rintro again k B' hk' ⟨hx,hL⟩
  dsimp only [st];have hg:on[k]? =some on[k]:=List.getElem?_eq_getElem hk'
  have hk2:(k:Int) < (on.length:Int):=by omega
  have hfd:B.failed on[k]=false:=hup _ (List.getElem_mem hk')
  rw [decide_eq_true hk2,zaI,zaa (by omega),Int.toNat_natCast,zaa (by rw [zc8]; omega),Nat.zero_add,zap (zs2 hg),zaR,zaa (by omega),zaa rfl,zaa rfl,zaa rfl,zaa rfl,ha k hk',←zlI]
  generalize on[k]=d at*
  let su:Nat→Ben→(Nat×List D×List D×Int×Int×Int×Int×Int×PUnit)×List (List D)×List (List D)×PUnit:=fun i B2=>((b,pL (fP l),intL on,d,(on.length:Int),(k:Int),((pL (fP l)).length:Int),(i:Int),PUnit.unit),P0 T0 b idx B2,P1 T1 idx B2,PUnit.unit)
  let fin2:Int×Ben→Option Ans:=fun y=>if y.1=0 then again (st (k+1) y.2) else fin y
  show zb2 _ (su 0 B')=fin2 (runE (fun i B2=>runA (sub d i) B2) 0 l.length B')
  refine zoj (fun i B2=>runA (sub d i) B2) (fun i B2=>Nx (4*(k:Int)+(i:Int)) B B2∧Like B B2) su fin2 l.length (by omega) ⟨hx.mono (by omega),hL⟩ ?_ ?_ ?_
  ·rintro i B2 hi ⟨hx2,hL2⟩ _
   rw [hsub _ _ hi,zl6]
   exact ⟨(hx2.trans (zvS hx2.ok (.inl (hes _ (List.getElem_mem hi))))).mono (by omega),hL2.trans (zp5 ..)⟩
  ·rintro again2 i B2 hi ⟨hx2,hL2⟩
   dsimp only [su];have hg2:l[i]? =some l[i]:=List.getElem?_eq_getElem hi
   have hi2:(i:Int) < ((pL (fP l)).length:Int):=by omega
   have hw2:=hx2.w
   have wl:IntKind.i64.wrap (2+(i:Int))=2+(i:Int):=zav (by omega) (by omega)
   have hwr:=zDJ (h.nx hx2) (by omega) d (2+(i:Int)) .fresh l[i]
   have h5:=zyB (B:=B2) (d:=d) (a:=2+(i:Int)) (x:=l[i]) (by rw [hL2.2]; exact hfd)
   rw [hsub _ _ hi,zl6,decide_eq_true hi2,zaI,zaa (by omega),Int.toNat_natCast,zaa (by omega),Nat.zero_add,zap (zc7 (zAG hg2)),zdi,zam,wl,hwr,zab]
   dsimp only;rw [zaF,za1,za1,zaF,zaR,log_bad,zab,zbo]
   show _=if (B2.write d (2+(i:Int)) l[i]).1=0 then _ else _
   by_cases he:(B2.write d (2+(i:Int)) l[i]).1=0
   ·rw [if_pos he,he];show brK false _ _=_
    rw [zas,zam,zcZ (by omega),zaa rfl,zaa rfl,zaa rfl,zaa rfl]
    rfl
   ·rw [if_neg he,show ((B2.write d (2+(i:Int)) l[i]).1 != 0 && (B2.write d (2+(i:Int)) l[i]).1 != 5)=true by simp [he,h5],zaI]
    exact ((if_neg he).trans (hfin (B2.act (.w d (2+(i:Int)) l[i])) he)).symm
  ·rintro again2 B2 ⟨hx2,hL2⟩
   dsimp only [su]
   rw [zgG (by omega),zam,zcZ (by omega),zaa rfl,zaa rfl,zaa rfl]
   rfl
 ·rintro again B' ⟨hx,hL⟩
  dsimp only [st];have hxw:=hx.w
  have hfl:=log_flush (h.nx hx) (by omega) .lent (l:=on) (by omega) (fun d hd=>by rw [hL.2]; exact hup d hd)
  rw [zgG (by omega),zaa (by omega),zb5,hfl,zab]
  dsimp only
  rw [zaF,za1,zaF,zaR,←zzN (on.map Act.f) B' (by intro a ha; obtain ⟨d,_,rfl⟩:=List.mem_map.1 ha; rfl)]
  rfl
theorem zs3 {is:List Itm}:∀ {k:Nat},zeD is k=true→∀ j,j < k→∀ x,is[j]? =some x→x.ok=true
 | k+1,h,j,hj,x,hx=>by
  unfold zeD at h;rw [Bool.and_eq_true] at h
  by_cases e:j=k
  ·subst e;rw [hx] at h;have:=h.2;simp only [Bool.and_eq_true] at this;exact this.1
  ·exact zs3 h.1 j (by omega) x hx
theorem zEd {seq:Int} {is:List Itm} (h:recE seq is=0) {x:Itm} (hx:x∈is):0≤x.d∧x.d < 8∧36≤x.a∧x.a < 52∧x.x.length=32:=by
 have h1:zeD is is.length=true:=by
  cases e:zeD is is.length
  ·unfold recE at h; rw [if_pos (.inr (.inr (.inr e)))] at h; cases h
  ·rfl
 obtain ⟨j,hj,rfl⟩:=List.mem_iff_getElem.1 hx;have h2:=zs3 h1 j hj _ (List.getElem?_eq_getElem hj);unfold Itm.ok at h2;simp only [Bool.and_eq_true,decide_eq_true_eq,beq_iff_eq] at h2;omega
def aOn (B:Ben) (live:List Bool) (is:List Itm):List Int:=(is.filter fun x=>B.up live x.d).map (·.d)
def wI (B:Ben) (live:List Bool) (x:Itm):List Act:=if B.up live x.d then [.w x.d x.a x.x] else []
def zBR (B:Ben) (live:List Bool) (is:List Itm):List Act:=is.flatMap (wI B live)++(aOn B live is).map .f
def Ben.apply (B:Ben) (live:List Bool) (seq:Int) (is:List Itm):Int×Ben:=if recE seq is=0 then runA (zBR B live is) B else (recE seq is,B)
theorem zFV (B:Ben) (live:List Bool) {is:List Itm} {k:Nat} {x:Itm} (h:is[k]? =some x):aOn B live (is.take (k+1))=aOn B live (is.take k)++if B.up live x.d then [x.d] else []:=by
 unfold aOn;rw [List.take_add_one,h,List.filter_append,List.map_append];congr 1
 by_cases hu:B.up live x.d=true
 ·rw [if_pos hu]; show List.map _ (List.filter _ [x])=_; rw [List.filter_cons,if_pos hu]; rfl
 ·rw [if_neg hu]; show List.map _ (List.filter _ [x])=_; rw [List.filter_cons,if_neg hu]; rfl
theorem zEe (B:Ben) (live:List Bool) (is:List Itm):(aOn B live is).length≤is.length:=by
 unfold aOn; rw [List.length_map]; exact List.length_filter_le ..
theorem zEf (h:At T0 T1 b idx B) (hw:B.w≤998000) (tg:Tag) {live:List Bool} (hf:B.NoF live) (tg2:Tag) {t:Tag} (ht:zwG t) (seq:Int) {is:List Itm} (hs:∀ i∈is,Sec i.x):
  zc6 [.h kB b 0,.sl tg (live.map D.bool),.agg [.int .i64 seq,.sl tg2 (iL t is)]] [P0 T0 b idx B,P1 T1 idx B]=some (Ans.mk (.int .i64 (B.apply live seq is).1) [] [P0 T0 b idx (B.apply live seq is).2,P1 T1 idx (B.apply live seq is).2]):=by
 rw [ztG,zeN,zp7 ht];unfold znC Ben.apply;rw [zqB .lent zhc seq,zab,zaR]
 by_cases he:recE seq is=0
 rotate_left
 ·rw [zqp he,if_neg he]
 rw [zfX he,if_pos he];obtain ⟨h3,_,_⟩:=zl7 he;unfold zBR;rw [zjB]
 let acts:Nat→List Act:=fun k=>(is[k]?).elim [] (wI B live)
 have hacts:is.flatMap (wI B live)=(List.range' 0 is.length).flatMap acts:=(znK (wI B live) is).symm;rw [hacts,←zlI,zuT]
 let st:Nat→Ben→(Nat×List D×List D×List D×Int×Int×PUnit)×List (List D)×List (List D)×PUnit:=fun k B'=>((b,live.map D.bool,intL (aOn B live (is.take k)),iL .lent is,(is.length:Int),(k:Int),PUnit.unit),P0 T0 b idx B',P1 T1 idx B',PUnit.unit)
 let fin:Int×Ben→Option Ans:=fun y=>some (Ans.mk (.int .i64 (if y.1=0 then runA ((aOn B live is).map Act.f) y.2 else y).1) [] [P0 T0 b idx (if y.1=0 then runA ((aOn B live is).map Act.f) y.2 else y).2,P1 T1 idx (if y.1=0 then runA ((aOn B live is).map Act.f) y.2 else y).2])
 have hfin:∀ y:Int×Ben,y.1≠0→fin y=some (Ans.mk (.int .i64 y.1) [] [P0 T0 b idx y.2,P1 T1 idx y.2]):=fun y hy=>by dsimp only [fin]; rw [if_neg hy]
 show zb2 _ (st 0 B)=fin (runE _ 0 is.length B)
 have ha:∀ k (hk:k < is.length),acts k=wI B live is[k]:=fun k hk=>by dsimp only [acts]; rw [List.getElem?_eq_getElem hk]; rfl
 refine zoj (fun k B'=>runA (acts k) B') (fun k B'=>Nx (k:Int) B B'∧Like B B') st fin is.length (by omega) ⟨.rfl' h.ok (by omega),.refl B⟩ ?_ ?_ ?_
 ·rintro k B' hk' ⟨hx,hL⟩ _
  rw [ha k hk'];have hsx:=hs _ (List.getElem_mem hk');unfold wI;split
  ·rw [zl6]
   exact ⟨(hx.trans (zvS hx.ok (.inl hsx))).mono (by omega),hL.trans (zp5 ..)⟩
  ·exact ⟨hx.mono (by omega),hL⟩
 ·rintro again k B' hk' ⟨hx,hL⟩
  dsimp only [st];have hg:is[k]? =some is[k]:=List.getElem?_eq_getElem hk'
  have hk2:(k:Int) < (is.length:Int):=by omega
  have hxw:=hx.w;obtain ⟨d0,d8,a0,a1,hxl⟩:=zEd he (List.getElem_mem hk');have hbl:=zzG (h.nx hx);rw [hx.n] at hbl;have hu:=NoF.up hf d0;have hal:=zEe B live (is.take k)
  have htl:(is.take k).length≤k:=by rw [List.length_take]; omega
  rw [zFV B live hg,ha k hk',decide_eq_true hk2,zaI,zaa (by omega),Int.toNat_natCast,zap (zAR hg),zet,zch,zch,zga,zcr]
  dsimp only;rw [hbl,zab];dsimp only;rw [zaF,zaF,zaR]
  by_cases hn:B.n≤is[k].d
  ·have e:wI B live is[k]=[]:=if_neg (by rw [hu]; simp; omega)
   rw [zob hn,zam,zcZ (by omega),zaa rfl,e,if_neg (show ¬ B.up live is[k].d=true by rw [hu]; simp; omega),List.append_nil]
   rfl
  rw [zgG hn,log_is .lent live d0,zab,zbo]
  rw [show decide (is[k].d < B.n)=true from decide_eq_true (by omega),Bool.true_and] at hu
  rw [←hu]
  by_cases hup:B.up live is[k].d=true
  rotate_left
  ·have e:wI B live is[k]=[]:=if_neg hup
   have hup':B.up live is[k].d=false:=by simpa using hup
   rw [hup',Bool.not_false,zaI,zam,zcZ (by omega),zaa rfl,e,if_neg (show ¬ false=true by simp),List.append_nil]
   rfl
  have e:wI B live is[k]=[.w is[k].d is[k].a is[k].x]:=if_pos hup
  have hwr:=zDJ (h.nx hx) (by omega) is[k].d is[k].a .lent is[k].x
  have h5:=zyB (B:=B') (d:=is[k].d) (a:=is[k].a) (x:=is[k].x) (by rw [hL.2]; exact zhU hup)
  rw [hup,Bool.not_true,zas,if_pos (show true=true from rfl),e,zl6,hwr,zab]
  dsimp only;rw [zaF,za1,za1,zaF,zaR,log_bad,zab,zbo]
  show _=if (B'.write is[k].d is[k].a is[k].x).1=0 then _ else _
  by_cases hz:(B'.write is[k].d is[k].a is[k].x).1=0
  ·have u:intL (aOn B live (is.take k))++[D.int .i64 is[k].d]=intL (aOn B live (is.take k)++[is[k].d]):=by simp [intL]
   rw [if_pos hz,hz];show brK false _ _=_
   rw [zas,zaa (by rw [zc8]; omega),zaa rfl,zam,zcZ (by omega),u,zaa (by rw [zc8,zc8]; simp)]
   rfl
  ·rw [if_neg hz,show ((B'.write is[k].d is[k].a is[k].x).1 != 0 && (B'.write is[k].d is[k].a is[k].x).1 != 5)=true by simp [hz,h5],zaI]
   exact (hfin (B'.act (.w is[k].d is[k].a is[k].x)) hz).symm
 ·rintro again B' ⟨hx,hL⟩
  dsimp only [st];rw [List.take_length];have hxw:=hx.w;have hal:=zEe B live is
  have hfl:=log_flush (h.nx hx) (by omega) .lent (l:=aOn B live is) (by omega) (fun d hd=>by
   unfold aOn at hd;obtain ⟨x,hx',rfl⟩:=List.mem_map.1 hd;rw [hL.2]; exact zhU (List.mem_filter.1 hx').2)
  rw [zgG (by omega),zaa (by omega),zb5,hfl,zab]
  dsimp only
  rw [zaF,za1,zaF,zaR,←zzN ((aOn B live is).map Act.f) B' (by intro a ha; obtain ⟨d,_,rfl⟩:=List.mem_map.1 ha; rfl)]
  rfl
end
end Wf

namespace Wf
open Go Go.RowKit Go.Proofs
set_option linter.unusedSimpArgs false
set_option linter.unusedVariables false
set_option maxHeartbeats 4000000
theorem zEg (tg:Tag) {l:List Int} {n:Int} {i:Nat} (hn:l.length < 100000) (hi:l[i]? =some n) (hb:∀ j,j < i→l[j]? ≠some n):zaG [.sl tg (intL l),.int .i64 n]=some (.int .i64 (i:Int)):=by
 rw [ze8,zkU];unfold zdq;have hil:=(List.getElem?_eq_some_iff.1 hi).1;rw [zc8]
 refine zgb (fun a=>l.length - a.1.2.2.2.1.toNat) (fun _=>some (D.int .i64 (i:Int))) (fun a=>∃ k:Nat,k≤i∧a=((intL l,n,(l.length:Int),(k:Int),PUnit.unit),PUnit.unit)) ?_ ⟨0,by omega,rfl⟩ (by simp; omega)
 rintro again _ ⟨k,hk,rfl⟩ ih
 dsimp only
 have hg:l[k]? =some l[k]:=List.getElem?_eq_getElem (by omega)
 rw [zob (by omega),zaa (by omega),Int.toNat_natCast,zap (zs2 hg),zaR]
 by_cases e:k=i
 ·subst e;rw [hg] at hi;rw [zkV (Option.some.inj hi).symm]
 ·rw [zqo (fun q=>hb k (by omega) (by rw [hg,q])),zam,zcZ (by omega)]
  exact ih _ ⟨k+1,by omega,rfl⟩ (by dsimp only; omega)
section
variable {T0 T1:Tb} {b:Nat} {idx:List Nat} {B:Ben}
theorem update_up (h:At T0 T1 b idx B) (tg:Tag) (live:List Bool) (d:Int):zbZ [.h kB b 0,.sl tg (live.map D.bool),.int .i64 d] [P0 T0 b idx B,P1 T1 idx B]=some (Ans.mk (.bool (decide (0≤d) && B.up live d)) [] []):=by
 rw [ztz,zeN];unfold znv
 by_cases h0:0≤d
 rotate_left
 ·rw [zgG (by omega),decide_eq_false h0]; rfl
 rw [zob (by omega),zzG h,zab,decide_eq_true h0,Bool.true_and]
 dsimp only;rw [zaF,zaF,zaR,List.length_map];unfold Ben.up
 by_cases h1:d < B.n
 rotate_left
 ·rw [zgG h1,decide_eq_false h1]; rfl
 rw [zob h1,decide_eq_true h1,Bool.true_and]
 by_cases h2:d < live.length
 rotate_left
 ·rw [zgG h2,List.getElem?_eq_none (by omega)]; rfl
 have e:live[d.toNat]? =some (live[d.toNat]'(by omega)):=List.getElem?_eq_getElem (by omega)
 have e':(live.map D.bool)[d.toNat]? =some (.bool (live[d.toNat]'(by omega))):=by simp [e]
 rw [zob h2,zaa h0,zap e',zbo,e]
 cases live[d.toNat]'(by omega)
 ·rfl
 ·rw [zaI,zAF h d,zab];rfl
def zyC (B:Ben) (live:List Bool) (g:Geo) (n:Int) (data:List (List Int)):List Itm:=
 ([(ofP g n).1,(parP g (ofP g n).2.1).1,(parP g (ofP g n).2.1).2].filter fun d=>decide (0≤d) && B.up live d).map fun d=>⟨d,36+(ofP g n).2.1,atR g (ofP g n).2.1 data d⟩
def Ben.uPlan (B:Ben) (live:List Bool) (g:Geo) (n:Int) (x:List Int) (seq:Int):(Int×List Itm)×Int:=
 if x.length≠32 then ((0,[]),1)
 else if (ofP g n).2.2=false then ((0,[]),4)
 else if (B.sRead live g (ofP g n).2.1).2≠0 then ((0,[]),(B.sRead live g (ofP g n).2.1).2)
 else ((seq,zyC B live g n ((B.sRead live g (ofP g n).2.1).1.set (zcP g n).toNat x)),0)
def tagI (is:List Itm):Tag:=if is=[] then .nil else .fresh
theorem zwL (s:Int) (is:List Itm):D.free (.agg [.int .i64 s,.sl .fresh (iL .fresh is)])=true:=by
 have:D.freeL (iL .fresh is)=true:=by
  induction is with
  | nil=>rfl
  | cons i is ih=>exact (Bool.and_eq_true _ _).mpr ⟨by simp [Itm.D,D.free,D.freeL,zq8],ih⟩
 simp [D.free,D.freeL,this]
theorem zs4 (h:At T0 T1 b idx B) (hw:B.w≤999000) (tg:Tag) (live:List Bool) (g:Geo) (n:Int) (tgx:Tag) (x:List Int) (seq:Int):
  zbk [.h kB b 0,.sl tg (live.map D.bool),.agg [.int .i64 g.l,.int .i64 g.d,.int .i64 g.c],.int .i64 n,.sl tgx (uL x),.int .i64 seq] [P0 T0 b idx B,P1 T1 idx B]=
   some (Ans.mk (.tup [.agg [.int .i64 (B.uPlan live g n x seq).1.1,.sl (tagI (B.uPlan live g n x seq).1.2) (iL .fresh (B.uPlan live g n x seq).1.2)],.int .i64 (B.uPlan live g n x seq).2]) [] []):=by
 rw [zqV,zeN,zcN];unfold zj0 Ben.uPlan;rw [zcC]
 by_cases hx:x.length=32
 rotate_left
 ·rw [zqp (by omega),if_pos hx]; rfl
 rw [zfX (by omega),if_neg (by omega),zDT,zab,zeu,zcB,zcB,zcB,zcr]
 dsimp only;rw [zaR,zaR,zbo];cases ho:(ofP g n).2.2
 ·rw [Bool.not_false,zaI,if_pos rfl]; rfl
 rw [Bool.not_true,zas,if_neg (by simp)]
 have hin:0≤n∧n < g.cap:=by
  unfold ofP at ho;split at ho
  ·assumption
  ·cases ho
 have hof:ofP g n=(zcO g (rowG g n) (zcP g n),rowG g n,true):=if_pos hin
 rw [zsW h (by omega) .lent live g (ofP g n).2.1,zab]
 dsimp only;rw [zaF,zaF,zeu,zeC];dsimp only;rw [zbA,zaR]
 by_cases he:(B.sRead live g (ofP g n).2.1).2=0
 rotate_left
 ·rw [zqp he,if_pos he]; rfl
 rw [zfX he,if_neg (by simp [he])]
 obtain ⟨hR,hr⟩:=zyy h.ok he;generalize (B.sRead live g (ofP g n).2.1).1=data at*;obtain ⟨hk,r0,r1⟩:=zbJ.1 hr;have hdd:=ok_d hk;have hwd:=zca hk;obtain ⟨hpf,c0,c1,c2⟩:=zgE hin.1 hin.2;have hd0:=zht hpf c0 c1;rw [hof];rw [hof] at hr r0 r1 he;dsimp only at hr r0 r1 he ⊢;have hpi:=zk4 hpf
 have hnum:zDm g (rowG g n)=intL ((List.range g.width.toNat).map fun (j:Nat)=>numP g (rowG g n) (j:Int)):=by
  unfold zDm; rw [if_pos hpf]; unfold numD intL; rw [List.map_map]; rfl
 have hidx:=zEg .lent (l:=(List.range g.width.toNat).map fun (j:Nat)=>numP g (rowG g n) (j:Int)) (n:=n) (i:=(zcP g n).toNat) (by simp; omega) (by
  rw [List.getElem?_map,List.getElem?_range (by omega)]
  show some (numP g (rowG g n) (((zcP g n).toNat:Nat):Int))=_
  rw [show (((zcP g n).toNat:Nat):Int)=zcP g n by omega,c2]) (by
  intro j hj q
  rw [List.getElem?_map,List.getElem?_range (by omega)] at q
  have:=zHy hpf (j:=(j:Int)) (k:=zcP g n) (by omega) (by omega) c0 c1 (by rw [c2]; exact Option.some.inj q)
  omega)
 have hlen:=hR.len
 have hcl:(zcP g n).toNat < data.length:=by omega
 have hgd:(pL (fP data))[(zcP g n).toNat]? =some (.sl .fresh (uL (data.getD (zcP g n).toNat []))):=zsR hcl
 have hi1:(((zcP g n).toNat:Nat):Int).toNat=(zcP g n).toNat:=by omega
 have hps:(pL (fP data)).set (zcP g n).toNat (.sl .lent (uL x))=pL ((fP data).set (zcP g n).toNat (Tag.lent,x)):=zo3 ..
 have hsnd:((fP data).set (zcP g n).toNat (Tag.lent,x)).map (·.2)=data.set (zcP g n).toNat x:=by rw [List.map_set,zuN]
 rw [zzK,zab,zbA,hnum,zaa (by omega),zb5,hidx,zab,zaR,zaa (by omega),hi1,zaa (by rw [zeA,zij]; omega),Nat.zero_add,zap hgd,zaa (show D.isAgg (.sl .fresh _)=false from rfl),hps,
  zaa (by rw [zeA,zeA,List.length_set]; omega),show cut 0 (pL (fP data)).length (pL ((fP data).set (zcP g n).toNat (Tag.lent,x)))=pL ((fP data).set (zcP g n).toNat (Tag.lent,x)) from zlG (by rw [zeA,zeA,List.length_set]),
  zFy g (rowG g n) .lent (by rw [List.length_set,zij]; omega),hsnd,zab]
 have hfill:zxY g (rowG g n) (data.set (zcP g n).toNat x)=some (zdu g (rowG g n) (data.set (zcP g n).toNat x)):=by
  unfold zxY
  refine if_pos ⟨hpf,by rw [List.length_set]; exact hlen,List.all_eq_true.2 fun y hy=>?_⟩
  rcases List.mem_or_eq_of_mem_set hy with hy | rfl
  ·exact decide_eq_true (hR.sec y hy).len
  ·exact decide_eq_true hx
 rw [hfill];unfold solD;dsimp only;rw [zeu,zeC];dsimp only;rw [zbA,zbo,zjn,zab,zeu,zeC];dsimp only;rw [zaR,zaR];generalize data.set (zcP g n).toNat x=data' at*
 have hat:∀ d:Int,0≤d→d < g.d→∀ f:D→Option Ans,getK (pL (fP (zdu g (rowG g n) data'))) (0+d.toNat) f=f (.sl .fresh (uL (atR g (rowG g n) data' d))):=fun d d0 d1 f=>by
  rw [Nat.zero_add,zap (zsR (by rw [zl2]; omega)),znI (by omega),show ((d.toNat:Nat):Int)=d by omega]
 have hll:(pL (fP (zdu g (rowG g n) data'))).length=g.d.toNat:=by rw [zeA,zij,zl2]
 have wr:IntKind.i64.wrap (36+rowG g n)=36+rowG g n:=zav (by omega) (by omega)
 have key:zyC B live g n data'=([zcO g (rowG g n) (zcP g n),(parP g (rowG g n)).1,(parP g (rowG g n)).2].filter fun d=>decide (0≤d) && B.up live d).map fun d=>⟨d,36+rowG g n,atR g (rowG g n) data' d⟩:=by
  unfold zyC; rw [hof]
 rw [key];have hup:=update_up h .lent live;generalize zcO g (rowG g n) (zcP g n)=d1 at*;generalize (parP g (rowG g n)).1=d2 at*;generalize (parP g (rowG g n)).2=d3 at*
 have q:∀ d,(decide (0≤d) && B.up live d)=true→0≤d:=fun d hd=>by
  rw [Bool.and_eq_true,decide_eq_true_eq] at hd; exact hd.1
 have f1:∀ (s a b:Int) (x:List Int),D.free (.agg [.int .i64 s,.sl .fresh [.agg [.int .i64 a,.int .i64 b,.sl .fresh (uL x)]]])=true:=fun s a b x=>zwL s [⟨a,b,x⟩]
 have f2:∀ (s a b c d:Int) (x y:List Int),D.free (.agg [.int .i64 s,.sl .fresh [.agg [.int .i64 a,.int .i64 b,.sl .fresh (uL x)],.agg [.int .i64 c,.int .i64 d,.sl .fresh (uL y)]]])=true:=fun s a b c d x y=>zwL s [⟨a,b,x⟩,⟨c,d,y⟩]
 have f3:∀ (s a b c d e f:Int) (x y z:List Int),D.free (.agg [.int .i64 s,.sl .fresh [.agg [.int .i64 a,.int .i64 b,.sl .fresh (uL x)],.agg [.int .i64 c,.int .i64 d,.sl .fresh (uL y)],.agg [.int .i64 e,.int .i64 f,.sl .fresh (uL z)]]])=true:=fun s a b c d e f x y z=>zwL s [⟨a,b,x⟩,⟨c,d,y⟩,⟨e,f,z⟩]
 rw [wr,hup,zab];dsimp only;rw [zaF,zaF,zbo];cases e1:(decide (0≤d1) && B.up live d1)
 ·rw [zas,hup,zab];dsimp only;rw [zaF,zaF,zbo];cases e2:(decide (0≤d2) && B.up live d2)
  ·rw [zas,hup,zab];dsimp only;rw [zaF,zaF,zbo];cases e3:(decide (0≤d3) && B.up live d3)
   ·rw [zas];simp only [List.filter_cons,e1,e2,e3,List.filter_nil]; rfl
   ·have:=q _ e3
    rw [zaI,zam,zaa this,zaa (by omega),hat d3 this (by omega),zdi,zaa (f1 ..)]
    simp only [List.filter_cons,e1,e2,e3,List.filter_nil]; rfl
  ·have h2:=q _ e2
   rw [zaI,zam,zaa h2,zaa (by omega),hat d2 h2 (by omega),zdi,hup,zab]
   dsimp only;rw [zaF,zaF,zbo];cases e3:(decide (0≤d3) && B.up live d3)
   ·rw [zas,zaa (f1 ..)];simp only [List.filter_cons,e1,e2,e3,List.filter_nil]; rfl
   ·have:=q _ e3
    rw [zaI,zam,zaa this,zaa (by omega),hat d3 this (by omega),zdi,zaa (f2 ..)]
    simp only [List.filter_cons,e1,e2,e3,List.filter_nil]; rfl
 ·have h1:=q _ e1
  rw [zaI,zam,zaa h1,zaa (by omega),hat d1 h1 (by omega),zdi,hup,zab]
  dsimp only;rw [zaF,zaF,zbo];cases e2:(decide (0≤d2) && B.up live d2)
  ·rw [zas,hup,zab];dsimp only;rw [zaF,zaF,zbo];cases e3:(decide (0≤d3) && B.up live d3)
   ·rw [zas,zaa (f1 ..)];simp only [List.filter_cons,e1,e2,e3,List.filter_nil]; rfl
   ·have:=q _ e3
    rw [zaI,zam,zaa this,zaa (by omega),hat d3 this (by omega),zdi,zaa (f2 ..)]
    simp only [List.filter_cons,e1,e2,e3,List.filter_nil]; rfl
  ·have h2:=q _ e2
   rw [zaI,zam,zaa h2,zaa (by omega),hat d2 h2 (by omega),zdi,hup,zab]
   dsimp only;rw [zaF,zaF,zbo];cases e3:(decide (0≤d3) && B.up live d3)
   ·rw [zas,zaa (f2 ..)];simp only [List.filter_cons,e1,e2,e3,List.filter_nil]; rfl
   ·have:=q _ e3
    rw [zaI,zam,zaa this,zaa (by omega),hat d3 this (by omega),zdi,zaa (f3 ..)]
    simp only [List.filter_cons,e1,e2,e3,List.filter_nil]; rfl
theorem zAS {l:List (List Int)} (hl:l.length=4):∀ on:List Int,nW (zlL on l)=4*on.length
 | []=>rfl
 | d::on=>by
  unfold zlL at*
  rw [List.flatMap_cons,zom,zGl hl d,List.length_cons,show nW (on.flatMap _)=_ from zAS hl on]; omega
theorem zs5 {on:List Int} {l:List (List Int)} {a:Act} (h:a∈zlL on l):∃ d∈on,∃ (i:Nat) (hi:i < l.length),a=.w d (2+(i:Int)) l[i]:=by
 unfold zlL at h;obtain ⟨d,hd,h⟩:=List.mem_flatMap.1 h;obtain ⟨i,hi,h⟩:=List.mem_flatMap.1 h
 have hi':i < l.length:=by have:=List.mem_range'_1.1 hi; omega
 rw [List.getElem?_eq_getElem hi'] at h;exact ⟨d,hd,i,hi',List.mem_singleton.1 h⟩
theorem zGm {B:Ben} (hB:B.Ok) (live:List Bool) (seq:Int) {is:List Itm} (hs:∀ i∈is,Sec i.x):Nx 32 B (B.put live seq is).2∧Like B (B.put live seq is).2:=by
 unfold Ben.put
 by_cases he:recE seq is=0
 rotate_left
 ·rw [if_neg he]; exact ⟨.rfl' hB (by omega),.refl B⟩
 rw [if_pos he];obtain ⟨h3,_,_⟩:=zl7 he;have hel:=zrd seq h3;have hes:=zwJ seq h3 hs
 obtain ⟨n1,n2⟩:=zwF (zlL (B.onL live) (encR seq is)++B.fActs live) hB (by
  intro a ha;rcases List.mem_append.1 ha with ha | ha
  ·obtain ⟨d,_,i,hi,rfl⟩:=zs5 ha;exact hes _ (List.getElem_mem hi)
  ·have:=zHG B live a ha
   cases a with
   | w d a x=>cases this
   | f d=>trivial)
 rw [zom,zAS hel,zFG] at n1;have:=zEb B live;have:=hB.small
 exact ⟨n1.mono (by omega),n2⟩
theorem zFW {B:Ben} (hB:B.Ok) (live:List Bool) (seq:Int) {is:List Itm} (hs:∀ i∈is,Sec i.x):Nx 3 B (B.apply live seq is).2∧Like B (B.apply live seq is).2:=by
 unfold Ben.apply
 by_cases he:recE seq is=0
 rotate_left
 ·rw [if_neg he]; exact ⟨.rfl' hB (by omega),.refl B⟩
 rw [if_pos he];obtain ⟨h3,_,_⟩:=zl7 he
 obtain ⟨n1,n2⟩:=zwF (zBR B live is) hB (by
  intro a ha;rcases List.mem_append.1 ha with ha | ha
  ·obtain ⟨x,hx,ha⟩:=List.mem_flatMap.1 ha;unfold wI at ha;split at ha
   ·rw [List.mem_singleton.1 ha]; exact hs x hx
   ·cases ha
  ·obtain ⟨d,_,rfl⟩:=List.mem_map.1 ha; trivial)
 have hw:∀ l:List Itm,nW (l.flatMap (wI B live))≤l.length:=by
  intro l
  induction l with
  | nil=>exact Nat.le_refl _
  | cons x l ih=>
   rw [List.flatMap_cons,zom,List.length_cons]
   have:nW (wI B live x)≤1:=by
    unfold wI; split
    ·exact Nat.le_refl 1
    ·exact Nat.zero_le _
   omega
 have hf:∀ l:List Int,nW (l.map Act.f)=0:=by
  intro l
  induction l with
  | nil=>rfl
  | cons x l ih=>rw [List.map_cons,zzj,ih]; rfl
 unfold zBR at*;rw [zom,hf] at n1;have:=hw is
 exact ⟨n1.mono (by omega),n2⟩
theorem NoF.like {B B':Ben} {live:List Bool} (h:B.NoF live) (hL:Like B B'):B'.NoF live:=fun d d0 d1 hl=>by
 rw [hL.2]; exact h d d0 (by rw [←hL.1]; exact d1) hl
theorem zEh {B:Ben} (hB:B.Ok) (live:List Bool) (g:Geo) (n:Int) {x:List Int} (hx:x.length=32→Sec x) (seq:Int):∀ i∈(B.uPlan live g n x seq).1.2,Sec i.x:=by
 unfold Ben.uPlan
 by_cases h1:x.length=32
 rotate_left
 ·rw [if_pos h1]; intro i hi; cases hi
 rw [if_neg (by simp [h1])]
 cases ho:(ofP g n).2.2
 ·rw [if_pos rfl]; intro i hi; cases hi
 rw [if_neg (by simp)]
 have hin:0≤n∧n < g.cap:=by
  unfold ofP at ho;split at ho
  ·assumption
  ·cases ho
 have hof:ofP g n=(zcO g (rowG g n) (zcP g n),rowG g n,true):=if_pos hin
 by_cases he:(B.sRead live g (ofP g n).2.1).2=0
 rotate_left
 ·rw [if_pos he]; intro i hi; cases hi
 rw [if_neg (by simp [he])]
 obtain ⟨hR,hr⟩:=zyy hB he;obtain ⟨hpf,c0,c1,c2⟩:=zgE hin.1 hin.2
 have hR':Row g ((B.sRead live g (ofP g n).2.1).1.set (zcP g n).toNat x):=⟨by rw [List.length_set]; exact hR.len,fun y hy=>by
  rcases List.mem_or_eq_of_mem_set hy with hy | rfl
  ·exact hR.sec y hy
  ·exact hx h1⟩
 intro i hi;unfold zyC at hi;obtain ⟨d,hd,rfl⟩:=List.mem_map.1 hi;obtain ⟨hd,hu⟩:=List.mem_filter.1 hd;simp only [Bool.and_eq_true,decide_eq_true_eq] at hu;refine zDr hr hR' hu.1 ?_;have hpi:=zk4 hr;have hdi:=zht hpf c0 c1;simp only [List.mem_cons,List.not_mem_nil,or_false] at hd;rcases hd with rfl | rfl | rfl
 ·rw [hof]; exact hdi.2
 ·exact hpi.2.1
 ·rcases hpi.2.2 with q | q<;>omega
def Ben.uDo (B:Ben) (live:List Bool) (g:Geo) (n:Int) (x:List Int) (seq:Int):Int×Ben:=
 if (B.uPlan live g n x seq).2≠0 then ((B.uPlan live g n x seq).2,B)
 else if (B.put live (B.uPlan live g n x seq).1.1 (B.uPlan live g n x seq).1.2).1≠0 then B.put live (B.uPlan live g n x seq).1.1 (B.uPlan live g n x seq).1.2
 else (B.put live (B.uPlan live g n x seq).1.1 (B.uPlan live g n x seq).1.2).2.apply live (B.uPlan live g n x seq).1.1 (B.uPlan live g n x seq).1.2
theorem zEi (h:At T0 T1 b idx B) (hw:B.w≤990000) (tg:Tag) {live:List Bool} (hf:B.NoF live) (g:Geo) (n:Int) (tgx:Tag) {x:List Int} (hx:x.length=32→Sec x) (seq:Int):
  zb6 [.h kB b 0,.sl tg (live.map D.bool),.agg [.int .i64 g.l,.int .i64 g.d,.int .i64 g.c],.int .i64 n,.sl tgx (uL x),.int .i64 seq] [P0 T0 b idx B,P1 T1 idx B]=
   some (Ans.mk (.int .i64 (B.uDo live g n x seq).1) [] [P0 T0 b idx (B.uDo live g n x seq).2,P1 T1 idx (B.uDo live g n x seq).2]):=by
 rw [ztI,zeN,zcN];unfold znD Ben.uDo
 rw [zs4 h (by omega) .lent live g n .lent x seq,zab]
 dsimp only;rw [zaF,zaF,zeu,zeC];dsimp only;rw [zet,zch,zga,zcr];dsimp only;rw [zaR]
 by_cases he:(B.uPlan live g n x seq).2=0
 rotate_left
 ·rw [zqp he,if_pos he]
 have hsx:=zEh h.ok live g n hx seq
 rw [zfX he,if_neg (by simp [he])]
 generalize (B.uPlan live g n x seq).1.1=sq at*;generalize (B.uPlan live g n x seq).1.2=is at*;obtain ⟨n1,l1⟩:=zGm h.ok live sq hsx;have hw1:=n1.w
 rw [zEc h (by omega) .lent hf (tagI is) zsX sq hsx,zab]
 dsimp only;rw [zaF,za1,za1,zaF,zaR]
 by_cases hp:(B.put live sq is).1=0
 rotate_left
 ·rw [zqp hp,if_pos hp]
 rw [zfX hp,if_neg (by simp [hp]),zEf (h.nx n1) (by omega) .lent (NoF.like hf l1) (tagI is) zsX sq hsx,zab]
 dsimp only;rw [zaF,za1,za1,zaF,zaR]
theorem zyD (h:At T0 T1 b idx B) (hw:B.w≤990000) (tg:Tag) {live:List Bool} (hf:B.NoF live) (seq:Int):
  zb8 [.h kB b 0,.sl tg (live.map D.bool),.int .i64 seq] [P0 T0 b idx B,P1 T1 idx B]=some (Ans.mk (.int .i64 (B.put live seq []).1) [] [P0 T0 b idx (B.put live seq []).2,P1 T1 idx (B.put live seq []).2]):=by
 rw [zp0,zeN];unfold ziB
 have:=zEc h (by omega) .lent hf .nil zhc seq (is:=[]) (by intro i hi; cases hi)
 rw [show D.sl Tag.nil []=D.sl Tag.nil (iL .lent []) from rfl,this,zab]
 dsimp only;rw [zaF,za1,za1,zaF,zaR]
end
end Wf

namespace Wf
open Go Go.RowKit Go.Proofs
set_option linter.unusedSimpArgs false
set_option linter.unusedVariables false
set_option maxHeartbeats 4000000
theorem zGn (l:List Int) (c:Int→Int→List Int):curs c (l.map Act.f)=c:=by
 induction l with
 | nil=>rfl
 | cons d l ih=>exact ih
theorem zBS (B:Ben) (live:List Bool) (c:Int→Int→List Int):curs c (B.fActs live)=c:=by rw [←zHP]; exact zGn _ c
theorem zFX {l:List (List Int)} (hl:l.length=4) (d:Int) (c:Int→Int→List Int) (e b:Int):
  curs c ((List.range' 0 l.length).flatMap fun (i:Nat)=>(l[i]?).elim [] fun x=>[Act.w d (2+(i:Int)) x]) e b=if e=d∧2≤b∧b < 6 then l.getD (b - 2).toNat [] else c e b:=by
 match l,hl with
 | [x0,x1,x2,x3],_=>
  show (if e=d∧b=2+3 then x3 else if e=d∧b=2+2 then x2 else if e=d∧b=2+1 then x1 else if e=d∧b=2+0 then x0 else c e b)=_
  by_cases he:e=d
  ·by_cases h5:b=5
   ·subst h5; simp [he]
   by_cases h4:b=4
   ·subst h4; simp [he]
   by_cases h3:b=3
   ·subst h3; simp [he]
   by_cases h2:b=2
   ·subst h2; simp [he]
   rw [if_neg (by omega),if_neg (by omega),if_neg (by omega),if_neg (by omega),if_neg (by omega)]
  ·simp [he]
theorem zuY {l:List (List Int)} (hl:l.length=4):∀ (on:List Int) (c:Int→Int→List Int) (e b:Int),curs c (zlL on l) e b=if e∈on∧2≤b∧b < 6 then l.getD (b - 2).toNat [] else c e b
 | [],c,e,b=>by simp [zlL,curs]
 | d::on,c,e,b=>by
  have:zlL (d::on) l=((List.range' 0 l.length).flatMap fun (i:Nat)=>(l[i]?).elim [] fun x=>[Act.w d (2+(i:Int)) x])++zlL on l:=by unfold zlL; rw [List.flatMap_cons]
  rw [this,zm5,zuY hl on,zFX hl]
  by_cases h1:e∈on
  ·by_cases h2:2≤b∧b < 6
   ·rw [if_pos ⟨h1,h2⟩,if_pos ⟨List.mem_cons_of_mem _ h1,h2⟩]
   ·rw [if_neg (fun q=>h2 q.2),if_neg (fun q=>h2 q.2),if_neg (fun q=>h2 q.2)]
  ·rw [if_neg (fun q=>h1 q.1)]
   by_cases h2:e=d
   ·subst h2; simp
   ·rw [if_neg (fun q=>h2 q.1),if_neg (fun q=>by rcases List.mem_cons.1 q.1 with r | r; exact h2 r; exact h1 r)]
theorem zAT (A:Int) (f:Int→List Int):∀ (ds:List Int) (c:Int→Int→List Int) (e b:Int),curs c (ds.map fun d=>Act.w d A (f d)) e b=if b=A∧e∈ds then f e else c e b
 | [],c,e,b=>by simp [curs]
 | d::ds,c,e,b=>by
  show curs (Act.cur c (.w d A (f d))) (ds.map _) e b=_;rw [zAT A f ds]
  by_cases h1:b=A∧e∈ds
  ·rw [if_pos h1,if_pos ⟨h1.1,List.mem_cons_of_mem _ h1.2⟩]
  ·rw [if_neg h1]
   show (if e=d∧b=A then f d else c e b)=_
   by_cases h2:e=d∧b=A
   ·rw [if_pos h2,if_pos ⟨h2.2,by rw [h2.1]; exact List.mem_cons_self ..⟩,h2.1]
   ·rw [if_neg h2,if_neg (fun q=>by rcases List.mem_cons.1 q.2 with r | r; exact h2 ⟨r,q.1⟩; exact h1 ⟨q.1,r⟩)]
theorem zuZ {is:List Itm} (h:∀ x∈is,x.ok=true) (hp:is.Pairwise fun a b=>a.d≠b.d):∀ k,k≤is.length→zeD is k=true
 | 0,_=>rfl
 | k+1,hk=>by
  unfold zeD
  rw [zuZ h hp k (by omega),List.getElem?_eq_getElem (by omega)]
  have h1:=h _ (List.getElem_mem (show k < is.length by omega))
  have h2:((is.take k).any fun y=>y.same is[k])=false:=by
   rw [List.any_eq_false];intro y hy;obtain ⟨j,hj,rfl⟩:=List.mem_iff_getElem.1 hy
   have hj':j < k:=by rw [List.length_take] at hj; omega
   have:=List.pairwise_iff_getElem.1 hp j k (by omega) (by omega) hj'
   rw [List.getElem_take];unfold Itm.same;simp only [Bool.and_eq_true,beq_iff_eq,not_and];intro q; exact absurd q this
  simp only [h1,h2,Bool.not_false,Bool.and_self,Bool.true_and]
theorem zHQ (A:Int) (f:Int→List Int) {ds:List Int} (h:ds.Nodup):(ds.map fun d=>(⟨d,A,f d⟩:Itm)).Pairwise fun a b=>a.d≠b.d:=by
 rw [List.pairwise_map];exact h
section
variable {B:Ben} {live:List Bool}
theorem zFY {l:List (List Int)} (hl:l.length=4) (hs:∀ x∈l,Sec x):∀ a∈zlL (B.onL live) l,a.Ok B:=by
 intro a ha;obtain ⟨d,hd,i,hi,rfl⟩:=zs5 ha;obtain ⟨d0,hu⟩:=zs1.1 hd
 exact ⟨zfE.2 ⟨d0,zyv hu⟩,zhU hu,by omega,by omega,hs _ (List.getElem_mem hi)⟩
def Act.disk:Act→Int
 | .w d _ _=>d
 | .f d=>d
theorem zwM {e:Int} (e0:0≤e):∀ (l:List Act) {B:Ben},B.Ok→(∀ a∈l,a.Ok B)→(∀ a∈l,a.disk≠e)→(does B l).nP e=B.nP e
 | [],B,_,_,_=>rfl
 | a::l,B,hB,hA,hd=>by
  have ha:=hA a (List.mem_cons_self ..);show (does (B.does1 a) l).nP e=_
  rw [zwM e0 l (zjC hB ha).ok (fun c hc=>zol hB ha (hA c (List.mem_cons_of_mem _ hc))) fun c hc=>hd c (List.mem_cons_of_mem _ hc),zAQ ha e0]
  have:=hd a (List.mem_cons_self ..)
  cases a with
  | w d a x=>exact if_neg fun q=>this q.symm
  | f d=>exact if_neg fun q=>this q.symm
theorem zwN {e:Int} (e0:0≤e):∀ (l:List Int) {B:Ben},B.Ok→(∀ d∈l,(Act.f d).Ok B)→(does B (l.map Act.f)).nP e=if e∈l then 0 else B.nP e
 | [],B,_,_=>by simp [does]
 | d::l,B,hB,hA=>by
  have ha:=hA d (List.mem_cons_self ..);show (does (B.does1 (.f d)) (l.map Act.f)).nP e=_
  rw [zwN e0 l (zjC hB ha).ok (fun c hc=>zol hB ha (hA c (List.mem_cons_of_mem _ hc))),zAQ ha e0]
  dsimp only
  by_cases h1:e∈l
  ·rw [if_pos h1,if_pos (List.mem_cons_of_mem _ h1)]
  ·rw [if_neg h1]
   by_cases h2:e=d
   ·rw [if_pos h2,if_pos (by rw [h2]; exact List.mem_cons_self ..)]
   ·rw [if_neg h2,if_neg (fun q=>by rcases List.mem_cons.1 q with r | r; exact h2 r; exact h1 r)]
structure Dn (B:Ben) (live:List Bool) (K:Int) (B1:Ben):Prop where
 nx:Nx K B B1
 like:Like B B1
 down:B1.down=false
 left:B1.left=B.left
 nP:∀ e:Int,0≤e→B1.nP e=0∨B1.nP e=B.nP e
 nU:∀ e:Int,0≤e→B.up live e=false→B1.nP e=B.nP e
 oth:∀ e b:Int,0≤e→0≤b→b < 52→B.up live e=false→B1.cur e b=B.cur e b
structure Putd (B:Ben) (live:List Bool) (l:List (List Int)) (B1:Ben):Prop extends Dn B live 32 B1 where
 cur:∀ e b:Int,0≤e→0≤b→b < 52→B1.cur e b=if B.up live e=true∧2≤b∧b < 6 then l.getD (b - 2).toNat [] else B.cur e b
 nZ:∀ e:Int,0≤e→B.up live e=true→B1.nP e=0
theorem zFZ (hB:B.Ok) (hd:B.down=false) (hl:B.left < 0) {seq:Int} {is:List Itm} (he:recE seq is=0) (hs:∀ i∈is,Sec i.x):
  (B.put live seq is).1=0∧Putd B live (encR seq is) (B.put live seq is).2:=by
 obtain ⟨h3,_,_⟩:=zl7 he;have hel:=zrd seq h3;have hes:=zwJ seq h3 hs;have hp:=zFY (B:=B) (live:=live) hel hes
 have hok:∀ a∈zlL (B.onL live) (encR seq is)++B.fActs live,a.Ok B:=by
  intro a ha;rcases List.mem_append.1 ha with ha | ha
  ·exact hp a ha
  ·exact zE9 a ha
 have hD:=zvU _ hB hd hok (.inl hl);obtain ⟨n1,l1⟩:=zGm hB live seq hs
 have e:B.put live seq is=(0,does B (zlL (B.onL live) (encR seq is)++B.fActs live)):=by unfold Ben.put; rw [if_pos he]; exact hD.run
 rw [e] at n1 l1 ⊢
 have hon:∀ e:Int,0≤e→(e∈B.onL live↔B.up live e=true):=fun e e0=>by rw [zs1]; exact ⟨fun h=>h.2,fun h=>⟨e0,h⟩⟩
 have hcur:∀ e b:Int,0≤e→0≤b→b < 52→(does B (zlL (B.onL live) (encR seq is)++B.fActs live)).cur e b=if B.up live e=true∧2≤b∧b < 6 then (encR seq is).getD (b - 2).toNat [] else B.cur e b:=fun e b e0 b0 b1=>by
  rw [hD.cur e b e0 b0 b1,zm5,zBS,zuY hel];simp only [hon e e0]
 have hnP:∀ e:Int,0≤e→(does B (zlL (B.onL live) (encR seq is)++B.fActs live)).nP e=if B.up live e=true then 0 else B.nP e:=fun e e0=>by
  obtain ⟨k1,k2⟩:=zD6 hB hp
  rw [zsa,←zHP,zwN e0 _ k1 fun d hd=>k2 _ (by rw [zs1] at hd; exact ⟨zfE.2 ⟨hd.1,zyv hd.2⟩,zhU hd.2⟩)]
  simp only [hon e e0]
  by_cases hu:B.up live e=true
  ·rw [if_pos hu,if_pos hu]
  ·rw [if_neg hu,if_neg hu]
   refine zwM e0 _ hB hp fun a ha=>?_
   obtain ⟨d,hd,i,hi,rfl⟩:=zs5 ha;intro q;have q:d=e:=q;subst q;exact hu (zs1.1 hd).2
 refine ⟨rfl,⟨n1,l1,hD.down.trans hd,by rw [hD.left,if_pos hl],fun e e0=>?_,fun e e0 hu=>?_,fun e b e0 b0 b1 hu=>?_⟩,hcur,fun e e0 hu=>?_⟩
 ·rw [hnP e e0]; split
  ·exact .inl rfl
  ·exact .inr rfl
 ·rw [hnP e e0,if_neg (by simp [hu])]
 ·rw [hcur e b e0 b0 b1,if_neg (by simp [hu])]
 ·rw [hnP e e0,if_pos hu]
theorem zBT (hB:B.Ok) (hd:B.down=false) (hl:B.left < 0) {seq:Int} {A:Int} {f:Int→List Int} {ds:List Int} (he:recE seq (ds.map fun d=>(⟨d,A,f d⟩:Itm))=0) (hs:∀ d∈ds,Sec (f d))
  (hu:∀ d∈ds,0≤d∧B.up live d=true):
  (B.apply live seq (ds.map fun d=>(⟨d,A,f d⟩:Itm))).1=0∧Dn B live 3 (B.apply live seq (ds.map fun d=>(⟨d,A,f d⟩:Itm))).2∧
   (∀ e b:Int,0≤e→0≤b→b < 52→(B.apply live seq (ds.map fun d=>(⟨d,A,f d⟩:Itm))).2.cur e b=if b=A∧e∈ds then f e else B.cur e b):=by
 have hes:∀ i∈(ds.map fun d=>(⟨d,A,f d⟩:Itm)),Sec i.x:=by intro i hi; obtain ⟨d,hd,rfl⟩:=List.mem_map.1 hi; exact hs d hd
 have hA:∀ d∈ds,36≤A∧A < 52:=fun d hd=>by
  have:=zEd he (List.mem_map.2 ⟨d,hd,rfl⟩); exact ⟨this.2.2.1,this.2.2.2.1⟩
 have e1:(ds.map fun d=>(⟨d,A,f d⟩:Itm)).flatMap (wI B live)=ds.map fun d=>Act.w d A (f d):=by
  clear he hs hes hA
  induction ds with
  | nil=>rfl
  | cons d ds ih=>
   rw [List.map_cons,List.flatMap_cons,List.map_cons,ih fun d hd=>hu d (List.mem_cons_of_mem _ hd)]
   show (if B.up live d=true then _ else _)++_=_
   rw [if_pos (hu d (List.mem_cons_self ..)).2]; rfl
 have e2:aOn B live (ds.map fun d=>(⟨d,A,f d⟩:Itm))=ds:=by
  clear he hs hes hA e1;unfold aOn;rw [List.filter_map,List.map_map]
  rw [show List.filter ((fun (x:Itm)=>B.up live x.d) ∘ fun d=>(⟨d,A,f d⟩:Itm)) ds=ds from List.filter_eq_self.2 fun d hd=>(hu d hd).2]
  exact List.map_id ds
 have e3:zBR B live (ds.map fun d=>(⟨d,A,f d⟩:Itm))=(ds.map fun d=>Act.w d A (f d))++ds.map Act.f:=by unfold zBR; rw [e1,e2]
 have hp:∀ a∈(ds.map fun d=>Act.w d A (f d)),a.Ok B:=by
  intro a ha;obtain ⟨d,hd,rfl⟩:=List.mem_map.1 ha;obtain ⟨d0,hu⟩:=hu d hd
  exact ⟨zfE.2 ⟨d0,zyv hu⟩,zhU hu,by have:=hA d hd; omega,(hA d hd).2,hs d hd⟩
 have hf:∀ d∈ds,(Act.f d).Ok B:=fun d hd=>⟨zfE.2 ⟨(hu d hd).1,zyv (hu d hd).2⟩,zhU (hu d hd).2⟩
 have hok:∀ a∈(ds.map fun d=>Act.w d A (f d))++ds.map Act.f,a.Ok B:=by
  intro a ha;rcases List.mem_append.1 ha with ha | ha
  ·exact hp a ha
  ·obtain ⟨d,hd,rfl⟩:=List.mem_map.1 ha; exact hf d hd
 have hD:=zvU _ hB hd hok (.inl hl);obtain ⟨n1,l1⟩:=zFW hB live seq hes
 have e:B.apply live seq (ds.map fun d=>(⟨d,A,f d⟩:Itm))=(0,does B ((ds.map fun d=>Act.w d A (f d))++ds.map Act.f)):=by unfold Ben.apply; rw [if_pos he,e3]; exact hD.run
 rw [e] at n1 l1 ⊢
 have hcur:∀ e b:Int,0≤e→0≤b→b < 52→(does B ((ds.map fun d=>Act.w d A (f d))++ds.map Act.f)).cur e b=if b=A∧e∈ds then f e else B.cur e b:=fun e b e0 b0 b1=>by
  rw [hD.cur e b e0 b0 b1,zm5,zGn,zAT]
 have hnP:∀ e:Int,0≤e→(does B ((ds.map fun d=>Act.w d A (f d))++ds.map Act.f)).nP e=if e∈ds then 0 else B.nP e:=fun e e0=>by
  obtain ⟨k1,k2⟩:=zD6 hB hp
  rw [zsa,zwN e0 _ k1 fun d hd=>k2 _ (hf d hd)]
  by_cases hm:e∈ds
  ·rw [if_pos hm,if_pos hm]
  ·rw [if_neg hm,if_neg hm]
   refine zwM e0 _ hB hp fun a ha=>?_
   obtain ⟨d,hd,rfl⟩:=List.mem_map.1 ha;intro q;have q:d=e:=q;subst q;exact hm hd
 refine ⟨rfl,⟨n1,l1,hD.down.trans hd,by rw [hD.left,if_pos hl],fun e e0=>?_,fun e e0 hu'=>?_,fun e b e0 b0 b1 hu'=>?_⟩,hcur⟩
 ·rw [hnP e e0]; split
  ·exact .inl rfl
  ·exact .inr rfl
 ·rw [hnP e e0,if_neg (fun q=>by have:=(hu e q).2; rw [hu'] at this; cases this)]
 ·rw [hcur e b e0 b0 b1,if_neg (fun q=>by have:=(hu e q.2).2; rw [hu'] at this; cases this)]
def Std (B:Ben) (live:List Bool) (g:Geo) (D:Nat→List (List Int)):Prop:=∀ r:Nat,r < 16→Row g (D r)∧∀ e:Int,0≤e→e < g.d→B.up live e=true→B.cur e (36+(r:Int))=atR g r (D r) e
def setRow (D:Nat→List (List Int)) (g:Geo) (a:Int) (x:List Int):Nat→List (List Int):=fun r=>if (r:Int)=rowG g a then (D r).set (zcP g a).toNat x else D r
def zeP (B:Ben) (live:List Bool) (g:Geo) (a:Int):List Int:=[zcO g (rowG g a) (zcP g a),(parP g (rowG g a)).1,(parP g (rowG g a)).2].filter fun d=>decide (0≤d) && B.up live d
theorem zjo {g:Geo} {a d:Int}:d∈zeP B live g a↔(d=zcO g (rowG g a) (zcP g a)∨d=(parP g (rowG g a)).1∨d=(parP g (rowG g a)).2)∧0≤d∧B.up live d=true:=by
 unfold zeP;rw [List.mem_filter];simp only [List.mem_cons,List.not_mem_nil,or_false,Bool.and_eq_true,decide_eq_true_eq]
theorem zyE {g:Geo} {a:Int} (a0:0≤a) (a1:a < g.cap):(zeP B live g a).Nodup:=by
 obtain ⟨hpf,c0,c1,c2⟩:=zgE a0 a1;have h1:=zvX hpf c0 c1;have h2:=zDp hpf
 refine List.Pairwise.filter _ (show List.Nodup _ from ?_)
 simp only [List.nodup_cons,List.mem_cons,List.not_mem_nil,or_false,not_or,not_false_eq_true,List.nodup_nil,and_true];exact ⟨h1,h2⟩
theorem zEj {g:Geo} {a:Int}:(zeP B live g a).length≤3:=List.length_filter_le ..
theorem Std.read {g:Geo} {D:Nat→List (List Int)} (h:Std B live g D) (hlost:(B.lostN live g:Int)≤g.l - 4) (hk:g.ok=true) (hd:B.down=false) {r:Nat} (hr:r < 16):B.sRead live g (r:Int)=(D r,0):=by
 obtain ⟨hR,hs⟩:=h r hr
 have hf:zcI g (r:Int)=true:=zbJ.2 ⟨hk,by omega,by omega⟩
 unfold Ben.sRead
 rw [if_neg (by simp [hf]),if_neg (by simp [hd]),zsc hf hR hs,if_pos hlost]
theorem zs6 {g:Geo} {D:Nat→List (List Int)} (hS:Std B live g D) (hlost:(B.lostN live g:Int)≤g.l - 4) (hd:B.down=false) {a:Int} (a0:0≤a) (a1:a < g.cap) {x:List Int} (hx:Sec x) (seq:Int):
  B.uPlan live g a x seq=((seq,(zeP B live g a).map fun d=>⟨d,36+rowG g a,atR g (rowG g a) (setRow D g a x (rowG g a).toNat) d⟩),0):=by
 obtain ⟨hpf,c0,c1,c2⟩:=zgE a0 a1;obtain ⟨hk,r0,r1⟩:=zbJ.1 hpf;have hof:ofP g a=(zcO g (rowG g a) (zcP g a),rowG g a,true):=if_pos ⟨a0,a1⟩
 have hrd:=hS.read hlost hk hd (r:=(rowG g a).toNat) (by omega)
 rw [show (((rowG g a).toNat:Nat):Int)=rowG g a by omega] at hrd
 unfold Ben.uPlan
 rw [if_neg (by rw [hx.len]; simp),hof]
 dsimp only
 rw [if_neg (by simp),hrd,if_neg (by simp)]
 have:setRow D g a x (rowG g a).toNat=(D (rowG g a).toNat).set (zcP g a).toNat x:=if_pos (by omega)
 unfold zyC;rw [hof,this];rfl
theorem zu0 {g:Geo} {D:Nat→List (List Int)} {a:Int} {x:List Int} (hx:Sec x) {r:Nat} (h:Row g (D r)):Row g (setRow D g a x r):=by
 unfold setRow;split
 ·exact ⟨by rw [List.length_set]; exact h.len,fun y hy=>by
   rcases List.mem_or_eq_of_mem_set hy with hy | rfl
   ·exact h.sec y hy
   ·exact hx⟩
 ·exact h
structure Upd (B:Ben) (live:List Bool) (g:Geo) (D:Nat→List (List Int)) (a:Int) (x:List Int) (seq:Int) (B2:Ben):Prop extends Dn B live 35 B2 where
 nZ:∀ e:Int,0≤e→B.up live e=true→B2.nP e=0
 std:Std B2 live g (setRow D g a x)
 row:∀ e b:Int,0≤e→36≤b→b < 52→b≠36+rowG g a→B2.cur e b=B.cur e b
 low:∀ e b:Int,0≤e→0≤b→b < 36→b < 2∨6≤b→B2.cur e b=B.cur e b
 log:∀ e b:Int,0≤e→2≤b→b < 6→B.up live e=true→B2.cur e b=(encR seq ((zeP B live g a).map fun d=>⟨d,36+rowG g a,atR g (rowG g a) (setRow D g a x (rowG g a).toNat) d⟩)).getD (b - 2).toNat []
theorem Dn.up {K:Int} {B1:Ben} (h:Dn B live K B1) (e:Int):B1.up live e=B.up live e:=h.like.up live e
theorem zHR {g:Geo} {D:Nat→List (List Int)} (hS:Std B live g D) {a:Int} (a0:0≤a) (a1:a < g.cap) {x:List Int} (hx:Sec x) {seq:Int} (s0:1≤seq) (s1:seq≤2147483647):
  recE seq ((zeP B live g a).map fun d=>(⟨d,36+rowG g a,atR g (rowG g a) (setRow D g a x (rowG g a).toNat) d⟩:Itm))=0∧
   ∀ d∈zeP B live g a,d < g.d∧Sec (atR g (rowG g a) (setRow D g a x (rowG g a).toNat) d):=by
 obtain ⟨hpf,c0,c1,c2⟩:=zgE a0 a1;obtain ⟨hk,r0,r1⟩:=zbJ.1 hpf;have hdd:=ok_d hk
 have hR':Row g (setRow D g a x (rowG g a).toNat):=zu0 hx (hS _ (by omega)).1
 have hdg:∀ d∈zeP B live g a,d < g.d:=fun d hd=>by
  obtain ⟨h1,d0,hu⟩:=zjo.1 hd;have hpi:=zk4 hpf;have hdi:=zht hpf c0 c1;rcases h1 with rfl | rfl | rfl
  ·exact hdi.2
  ·exact hpi.2.1
  ·rcases hpi.2.2 with q | q<;>omega
 have hsec:∀ d∈zeP B live g a,Sec (atR g (rowG g a) (setRow D g a x (rowG g a).toNat) d):=fun d hd=>zDr hpf hR' (zjo.1 hd).2.1 (hdg d hd)
 refine ⟨?_,fun d hd=>⟨hdg d hd,hsec d hd⟩⟩
 have hl:=zEj (B:=B) (live:=live) (g:=g) (a:=a)
 have hio:=zuZ (is:=(zeP B live g a).map fun d=>(⟨d,36+rowG g a,atR g (rowG g a) (setRow D g a x (rowG g a).toNat) d⟩:Itm)) (by
  intro i hi;obtain ⟨d,hd,rfl⟩:=List.mem_map.1 hi;have h1:=hdg d hd;have h2:=(hsec d hd).len;have h3:=(zjo.1 hd).2.1;unfold Itm.ok;simp only [Bool.and_eq_true,decide_eq_true_eq,beq_iff_eq]
  exact ⟨h3,by omega,by omega,by omega,by omega⟩) (zHQ _ _ (zyE a0 a1)) _ (Nat.le_refl _)
 unfold recE
 rw [if_neg (by rw [hio,List.length_map]; simp; omega)]
theorem zF0 (hB:B.Ok) (hd:B.down=false) (hl:B.left < 0) {g:Geo} {D:Nat→List (List Int)} (hS:Std B live g D) (hlost:(B.lostN live g:Int)≤g.l - 4) {a:Int} (a0:0≤a) (a1:a < g.cap) {x:List Int} (hx:Sec x) {seq:Int} (s0:1≤seq) (s1:seq≤2147483647):
  (B.uDo live g a x seq).1=0∧Upd B live g D a x seq (B.uDo live g a x seq).2:=by
 obtain ⟨hpf,c0,c1,c2⟩:=zgE a0 a1;obtain ⟨hk,r0,r1⟩:=zbJ.1 hpf;obtain ⟨he,hdg⟩:=zHR (live:=live) hS a0 a1 hx s0 s1;have hpl:=zs6 hS hlost hd a0 a1 hx seq
 have hdm:∀ d∈zeP B live g a,0≤d∧B.up live d=true:=fun d hd=>(zjo.1 hd).2
 have hu:B.uDo live g a x seq=if (B.put live seq ((zeP B live g a).map fun d=>⟨d,36+rowG g a,atR g (rowG g a) (setRow D g a x (rowG g a).toNat) d⟩)).1≠0 then B.put live seq ((zeP B live g a).map fun d=>⟨d,36+rowG g a,atR g (rowG g a) (setRow D g a x (rowG g a).toNat) d⟩)
   else (B.put live seq ((zeP B live g a).map fun d=>⟨d,36+rowG g a,atR g (rowG g a) (setRow D g a x (rowG g a).toNat) d⟩)).2.apply live seq ((zeP B live g a).map fun d=>⟨d,36+rowG g a,atR g (rowG g a) (setRow D g a x (rowG g a).toNat) d⟩):=by
  unfold Ben.uDo; rw [hpl]; simp
 rw [hu]
 obtain ⟨F,hF'⟩:∃ F:Int→List Int,∀ d,atR g (rowG g a) (setRow D g a x (rowG g a).toNat) d=F d:=⟨_,fun _=>rfl⟩
 simp only [hF'] at he hdg hpl ⊢;clear hu
 obtain ⟨p1,p2⟩:=zFZ hB hd hl he (live:=live) (by intro i hi; obtain ⟨d,hd,rfl⟩:=List.mem_map.1 hi; exact (hdg d hd).2)
 rw [if_neg (by simp [p1])]
 generalize (B.put live seq ((zeP B live g a).map fun d=>⟨d,36+rowG g a,F d⟩)).2=B1 at*
 have hup:=p2.toDn.up
 obtain ⟨q1,q2,q3⟩:=zBT (live:=live) p2.nx.ok p2.down (by rw [p2.left]; exact hl) he (fun d hd=>(hdg d hd).2) (fun d hd=>by rw [hup]; exact hdm d hd)
 generalize (B1.apply live seq ((zeP B live g a).map fun d=>⟨d,36+rowG g a,F d⟩)).2=B2 at*
 have hup2:=q2.up
 have hcur:∀ e b:Int,0≤e→36≤b→b < 52→B2.cur e b=if b=36+rowG g a∧e∈zeP B live g a then F e else B.cur e b:=fun e b e0 b0 b1=>by
  rw [q3 e b e0 (by omega) b1,p2.cur e b e0 (by omega) b1,if_neg (show ¬ (B.up live e=true∧2≤b∧b < 6) by omega)]
 refine ⟨q1,⟨p2.nx.trans q2.nx,p2.like.trans q2.like,q2.down,q2.left.trans p2.left,fun e e0=>?_,fun e e0 hu=>?_,fun e b e0 b0 b1 hu=>?_⟩,fun e e0 hu=>?_,fun r hr=>⟨zu0 hx (hS r hr).1,fun e e0 e1 hu=>?_⟩,fun e b e0 b0 b1 hne=>?_,fun e b e0 b0 b1 hb=>?_,fun e b e0 b0 b1 hu=>?_⟩
 ·rcases q2.nP e e0 with h | h
  ·exact .inl h
  ·rw [h]; exact p2.nP e e0
 ·rw [q2.nU e e0 (by rw [hup]; exact hu),p2.nU e e0 hu]
 ·rw [q2.oth e b e0 b0 b1 (by rw [hup]; exact hu),p2.oth e b e0 b0 b1 hu]
 ·have:=p2.nZ e e0 hu;rcases q2.nP e e0 with h | h
  ·exact h
  ·rw [h]; exact this
 ·rw [hup2,hup] at hu
  rw [hcur e _ e0 (by omega) (by omega)]
  by_cases hrr:(r:Int)=rowG g a
  ·by_cases hm:e∈zeP B live g a
   ·rw [if_pos ⟨by omega,hm⟩,←hF' e]
    rw [←hrr]; rfl
   ·rw [if_neg (fun q=>hm q.2),(hS r hr).2 e e0 e1 hu]
    have hne:¬ (e=zcO g (rowG g a) (zcP g a)∨e=(parP g (rowG g a)).1∨e=(parP g (rowG g a)).2):=fun q=>hm (zjo.2 ⟨q,e0,hu⟩)
    unfold setRow;rw [if_pos hrr];unfold atR;rw [hrr]
    rw [if_neg (fun q=>hne (.inr (.inl q))),if_neg (fun q=>hne (.inr (.inr q))),if_neg (fun q=>hne (.inr (.inl q))),if_neg (fun q=>hne (.inr (.inr q)))]
    obtain ⟨k0,k1,k2⟩:=zjD hpf e0 e1 (fun q=>hne (.inr (.inl q))) (fun q=>hne (.inr (.inr q)))
    rw [List.getD_eq_getElem?_getD,List.getD_eq_getElem?_getD,List.getElem?_set,if_neg];intro q;refine hne (.inl ?_)
    rw [show zcP g a=zfF g e (rowG g a) by omega,k2]
  ·rw [if_neg (by omega),(hS r hr).2 e e0 e1 hu]
   unfold setRow;rw [if_neg hrr]
 ·rw [hcur e b e0 b0 b1,if_neg (fun q=>hne q.1)]
 ·rw [q3 e b e0 b0 (by omega),if_neg (by omega),p2.cur e b e0 b0 (by omega),if_neg (by omega)]
 ·rw [q3 e b e0 (by omega) (by omega),if_neg (by omega),p2.cur e b e0 (by omega) (by omega),if_pos ⟨hu,b0,b1⟩]
  simp only [hF']
end
end Wf

namespace Wf
open Go Go.RowKit Go.Proofs
set_option linter.unusedSimpArgs false
set_option linter.unusedVariables false
set_option maxHeartbeats 4000000
section
variable {U V:Tb} {b:Nat} {idx:List Nat} {B:Ben} {n:Nat} {K:Int}
end
theorem zHS:za2 []=some (.bool true):=by
 have e:=zkD
 rw [e,zaa (by rfl)]
 unfold zfp
 obtain ⟨U,V,idx,hnew,hB,hS⟩:=zHN [] [] (n:=3) (by omega) (by omega)
 simp only [List.length_nil] at hnew hB;have hsec:=zj5 4;let g:Geo:=⟨5,3,1⟩
 have hup:∀ e:Int,0≤e→(Ben.new 3).up (List.replicate 3 true) e=decide (e < 3):=fun e e0=>by
  rw [zD5 (by simp [Ben.new,Ben.n]) e0,hS.failed]; simp
 have hstd:Std (Ben.new 3) (List.replicate 3 true) g fun _=>znJ g:=fun r hr=>⟨zFH (g:=g) rfl,fun e e0 e1 _=>by
  rw [zD1 3 e (by omega) (by omega),zHC (zbJ.2 ⟨rfl,by omega,by omega⟩) e0 e1]⟩
 have hl:((Ben.new 3).lostN (List.replicate 3 true) g:Int)≤g.l - 4:=by
  have:(Ben.new 3).lostN (List.replicate 3 true) g=0:=by
   unfold Ben.lostN;rw [List.countP_eq_zero];intro d hd;have h3:d < 3:=List.mem_range.1 hd
   rw [hup d (by omega)]; simp; omega
  rw [this]; decide
 have hpl:=zs6 hstd hl rfl (a:=3) (by omega) (by decide) (zwB 4) 1
 have hud:(zeP (Ben.new 3) (List.replicate 3 true) g 3)=[0,1]:=by
  unfold zeP
  rw [show [zcO g (rowG g 3) (zcP g 3),(parP g (rowG g 3)).1,(parP g (rowG g 3)).2]=[0,1,-1] by decide]
  rw [List.filter_cons,List.filter_cons,List.filter_cons,hup 0 (by omega),hup 1 (by omega)]
  rfl
 rw [hud] at hpl
 have hup2:=zs4 hB.at' (by have:=hB.w; omega) .full (List.replicate 3 true) g 3 .lent (secN 4) 1
 rw [hpl] at hup2;have e1:[D.bool true,D.bool true,D.bool true]=(List.replicate 3 true).map D.bool:=rfl;have e2:D.agg [D.int IntKind.i64 5,D.int IntKind.i64 3,D.int IntKind.i64 1]=.agg [.int .i64 g.l,.int .i64 g.d,.int .i64 g.c]:=rfl;have hnew3:zbx [D.int .i64 3] [[],[]]=some (Ans.mk (.tup [.h kB 0 0,.int .i64 0]) [] [P0 U 0 idx (Ben.new 3),P1 V idx (Ben.new 3)]):=hnew;rw [hnew3,zab];dsimp only;rw [zaF,za1,za1,zaF,zeu,zeC];dsimp only
 rw [zaa (by rfl),zaR,zfX rfl,zy7,zas,hsec,zab,zbA,zaa (by omega),zb5,e1,e2,hup2,zab]
 dsimp only;rw [zaF,zaF,zeu,zeC];dsimp only;rw [zet,zch,zga,zcr];dsimp only;rw [zaR,zkV rfl,zuT];rfl
end Wf

namespace Wf
open Go Go.RowKit Go.Proofs
open PUnit (unit)
set_option linter.unusedVariables false
set_option maxRecDepth 100000
def zej:Ann:={ loops:=[(2,dd 4 (.val (.cell (.int .i64))::.val (.cell (.int .i64))::dd 7 [.box true [(.int .i64),(.int .i64),(.int .i64)],.ptr 2496,.own 1,.own 1,.val (.cell (.int .i64))])),(4,dd 13 [.box true [(.int .i64),(.int .i64),(.int .i64)],.ptr 2496,.own 1,.own 1]),(5,dd 13 (.box true [(.int .i64),(.int .i64),(.int .i64)]::.ptr 2496::.own 1::.own 1::.dead::.val (.cell (.int .i64))::dd 108 [.same 15,.val (.cell (.int .i64)),.val (.cell (.int .i64))])),(7,dd 13 (.box true [(.int .i64),(.int .i64),(.int .i64)]::.ptr 2496::.own 1::.own 1::.dead::.val (.cell (.int .i64))::dd 108 [.same 15,.val (.cell (.int .i64)),.val (.cell (.int .i64))]))],ks:=[(2496,true),(8225,true)] }
noncomputable def F_wattlelaw15_UpdateErrors:Zp:=denT Tryz.prog (zay [(ID.wattleplay_Good,(.pure [0] zbD)),(ID.wattlelaw14_Filled,(.st [] [0] [(2496,true),(8225,true)] zba)),(ID.wattleplay_Live,(.pure [1] zbF)),(ID.wattlekeep_Within,(.pure [0] zac)),(ID.wattleplay_Sector,(.pure [1] zau)),(ID.update_Do,(.st [] [0] [(2496,true),(8225,true)] zb6)),(ID.wattleref01_Capacity,(.pure [0] zaX)),(ID.update_Empty,(.st [] [0] [(2496,true),(8225,true)] zb8)),(ID.bench_counter_Writes,(.st [] [0] [(2496,false)] zaY)),(ID.wattlelaw15_wakes,(.pure [0] za2))]) zej [0] ID.wattlelaw15_UpdateErrors
theorem zgF:Sound Tryz.prog ID.wattlelaw15_UpdateErrors (.pure [0] F_wattlelaw15_UpdateErrors):=zup (zaA [zmd,zjQ,zmp,zdn,zee,ztH,ziz,zpZ,ziC,zkC]) zbg ⟨Tryz.f3,by kernel_rfl,by kernel_rfl,by kernel_rfl⟩
noncomputable def fact_wattlelaw15_UpdateErrors:Fact Tryz.prog:=⟨ID.wattlelaw15_UpdateErrors,(.pure [0] F_wattlelaw15_UpdateErrors),zgF⟩
noncomputable def zdy (zbD:Zp) (zba:Zs) (zbF zac zau:Zp) (zb6:Zs) (zaX:Zp) (zb8 zaY:Zs) (za2:Zp) (a0 a1 a2:Int) (a3:List D) (a4 a5:Int):Option D:=
 zar (zbD [.int .i64 a0]) fun r1=>
 asAgg r1 fun cs2=>
 zaz ([Lf.int .i64,Lf.int .i64,Lf.int .i64]) cs2 fun c3=>
 zar (zba [.agg [.int .i64 c3.1,.int .i64 c3.2.1,.int .i64 c3.2.2.1],.int .i64 c3.2.1,.sl .lent a3] [[],[]]) fun r4=>
 nilK r4.outs <|
 zc1 r4.tbs fun c5 q6=>
 zc1 q6 fun c7 q8=>
 nilK q8 <|
 sif (zkO r4.r=true) <|
 zpe r4.r fun b9=>
 brK b9
  (some (.bool false))
  (zar (zbF [.int .i64 0,.int .i64 c3.2.1]) fun r10=>
  zbn r10 fun l11=>
  zar (zac [.int .i64 a1,.int .i64 1000]) fun r12=>
  asI .i64 r12 fun i13=>
  letN (IntKind.i64.wrap (1+i13)) fun n14=>
  zar (zac [.int .i64 a2,.int .i64 32]) fun r15=>
  asI .i64 r15 fun i16=>
  zar (zau [.int .i64 n14]) fun r17=>
  zbn r17 fun l18=>
  sif (0+l11.length≤l11.length) <|
  sif (0+l18.length≤l18.length) <|
  zar (zb6 [r4.r,.sl .lent (cut 0 l11.length l11),.agg [.int .i64 c3.1,.int .i64 c3.2.1,.int .i64 c3.2.2.1],.int .i64 (IntKind.i64.wrap ((0:Int) - n14)),.sl .lent (cut 0 l18.length l18),.int .i64 1] [c5,c7]) fun r19=>
  nilK r19.outs <|
  zc1 r19.tbs fun c20 q21=>
  zc1 q21 fun c22 q23=>
  nilK q23 <|
  asI .i64 r19.r fun i24=>
  brK (i24 != 4)
   (some (.bool false))
   (zar (zaX [.agg [.int .i64 c3.1,.int .i64 c3.2.1,.int .i64 c3.2.2.1]]) fun r25=>
   asI .i64 r25 fun i26=>
   letN (IntKind.i64.wrap (i26 - 1)) fun n27=>
   letN (IntKind.i64.wrap (n27+n14)) fun n28=>
   sif (0+l11.length≤l11.length) <|
   sif (0+l18.length≤l18.length) <|
   zar (zb6 [r4.r,.sl .lent (cut 0 l11.length l11),.agg [.int .i64 c3.1,.int .i64 c3.2.1,.int .i64 c3.2.2.1],.int .i64 n28,.sl .lent (cut 0 l18.length l18),.int .i64 1] [c20,c22]) fun r29=>
   nilK r29.outs <|
   zc1 r29.tbs fun c30 q31=>
   zc1 q31 fun c32 q33=>
   nilK q33 <|
   asI .i64 r29.r fun i34=>
   brK (i34 != 4)
    (some (.bool false))
    (sif (0≤i16) <|
    sif (i16≤(↑(l18.length):Int)) <|
    sif (0+l11.length≤l11.length) <|
    sif (0+Int.toNat (i16 - 0)≤l18.length) <|
    zar (zb6 [r4.r,.sl .lent (cut 0 l11.length l11),.agg [.int .i64 c3.1,.int .i64 c3.2.1,.int .i64 c3.2.2.1],.int .i64 0,.sl .lent (cut (0:Nat) (Int.toNat (i16 - 0)) l18),.int .i64 1] [c30,c32]) fun r35=>
    nilK r35.outs <|
    zc1 r35.tbs fun c36 q37=>
    zc1 q37 fun c38 q39=>
    nilK q39 <|
    asI .i64 r35.r fun i40=>
    brK (i40 != 1)
     (some (.bool false))
     (sif (0+l11.length≤l11.length) <|
     zar (zb6 [r4.r,.sl .lent (cut 0 l11.length l11),.agg [.int .i64 c3.1,.int .i64 c3.2.1,.int .i64 c3.2.2.1],.int .i64 (IntKind.i64.wrap ((0:Int) - n14)),.sl .nil [],.int .i64 1] [c36,c38]) fun r41=>
     nilK r41.outs <|
     zc1 r41.tbs fun c42 q43=>
     zc1 q43 fun c44 q45=>
     nilK q45 <|
     asI .i64 r41.r fun i46=>
     brK (i46 != 1)
      (some (.bool false))
      (sif (0+l11.length≤l11.length) <|
      sif (0+l18.length≤l18.length) <|
      zar (zb6 [r4.r,.sl .lent (cut 0 l11.length l11),.agg [.int .i64 c3.1,.int .i64 c3.2.1,.int .i64 c3.2.2.1],.int .i64 0,.sl .lent (cut 0 l18.length l18),.int .i64 0] [c42,c44]) fun r47=>
      nilK r47.outs <|
      zc1 r47.tbs fun c48 q49=>
      zc1 q49 fun c50 q51=>
      nilK q51 <|
      asI .i64 r47.r fun i52=>
      brK (i52 != 1)
       (some (.bool false))
       (sif (0+l11.length≤l11.length) <|
       zar (zb8 [r4.r,.sl .lent (cut 0 l11.length l11),.int .i64 (IntKind.i64.wrap ((0:Int) - n14))] [c48,c50]) fun r53=>
       nilK r53.outs <|
       zc1 r53.tbs fun c54 q55=>
       zc1 q55 fun c56 q57=>
       nilK q57 <|
       asI .i64 r53.r fun i58=>
       brK (i58 != 1)
        (some (.bool false))
        (zar (zac [.int .i64 a4,.int .i64 c3.2.1]) fun r59=>
        asI .i64 r59 fun i60=>
        zar (zac [.int .i64 a5,.int .i64 c3.2.1]) fun r61=>
        asI .i64 r61 fun i62=>
        sif (l11.length=l11.length) <|
        sif (l18.length=l18.length) <|
        zb2 (α:=(Int×Int×(Int×Int×Int×PUnit)×D×List D×List D×Int×PUnit)×List (List D)×List (List D)×PUnit) (fun again63 ((i64,(i65,((i66,(i67,(i68,_))),(x69,(l70,(l71,(i72,_))))))),(U73,(U74,_)))=>
         brK (i72 == i64)
          (letN (IntKind.i64.wrap (i72+1)) fun n75=>
          sif (l70.length=l70.length) <|
          sif (l71.length=l71.length) <|
          again63 (((i64,i65,(i66,i67,i68,unit),x69,l70,l71,n75,unit),U73,U74,unit)))
          (brK (i72 == i65)
           (letN (IntKind.i64.wrap (i72+1)) fun n76=>
           sif (l70.length=l70.length) <|
           sif (l71.length=l71.length) <|
           again63 (((i64,i65,(i66,i67,i68,unit),x69,l70,l71,n76,unit),U73,U74,unit)))
           (sif (0≤i64) <|
           sif (i64.toNat < l70.length) <|
           getK l70 (0+i64.toNat) fun d77=>
           sif (D.isAgg d77=false) <|
           sif (0≤i65) <|
           sif (i65.toNat < l70.length) <|
           getK (List.set l70 (0+i64.toNat) (.bool false)) (0+i65.toNat) fun d78=>
           sif (D.isAgg d78=false) <|
           jn (α:=((Int×Int×Int×PUnit)×D×List D×List D×PUnit)×List (List D)×List (List D)×PUnit) (fun a79=>
             sif (0+List.length a79.1.2.2.1≤List.length a79.1.2.2.1) <|
             sif (List.length a79.1.2.2.1=List.length a79.1.2.2.1) <|
             sif (List.length a79.1.2.2.2.1=List.length a79.1.2.2.2.1) <|
             sif (List.length a79.1.2.2.1=List.length a79.1.2.2.1) <|
             zb2 (α:=((Int×Int×Int×PUnit)×D×List D×List D×Int×Int×Int×PUnit)×List (List D)×List (List D)×PUnit) (fun again80 (((i81,(i82,(i83,_))),(x84,(l85,(l86,(i87,(i88,(i89,_))))))),(U90,(U91,_)))=>
              brK (decide (i89 < i88))
               (sif (0≤i89) <|
               sif (i89.toNat < l85.length) <|
               getK l85 (0+i89.toNat) fun d92=>
               asB d92 fun b93=>
               jn (α:=((Int×Int×Int×PUnit)×D×List D×List D×Int×Int×Int×PUnit)×List (List D)×List (List D)×PUnit) (fun a94=>
                 letN (IntKind.i64.wrap (a94.1.2.2.2.2.2.2.1+1)) fun n95=>
                 sif (List.length a94.1.2.2.1=List.length a94.1.2.2.1) <|
                 sif (List.length a94.1.2.2.2.1=List.length a94.1.2.2.2.1) <|
                 sif (List.length a94.1.2.2.1=List.length a94.1.2.2.1) <|
                 again80 ((((a94.1.1.1,a94.1.1.2.1,a94.1.1.2.2.1,unit),a94.1.2.1,a94.1.2.2.1,a94.1.2.2.2.1,a94.1.2.2.2.2.1,a94.1.2.2.2.2.2.1,n95,unit),a94.2.1,a94.2.2.1,unit)))
                (fun j96=>
                brK (!b93)
                 (letN (IntKind.i64.wrap (i87+1)) fun n97=>
                 sif (l85.length=l85.length) <|
                 sif (l86.length=l86.length) <|
                 sif (l85.length=l85.length) <|
                 j96 ((((i81,i82,i83,unit),x84,l85,l86,n97,i88,i89,unit),U90,U91,unit)))
                 (sif (l85.length=l85.length) <|
                 sif (l86.length=l86.length) <|
                 sif (l85.length=l85.length) <|
                 j96 ((((i81,i82,i83,unit),x84,l85,l86,i87,i88,i89,unit),U90,U91,unit)))))
               (sif (0+l85.length≤l85.length) <|
               sif (0+l86.length≤l86.length) <|
               zar (zb6 [x84,.sl .lent (cut 0 l85.length l85),.agg [.int .i64 i81,.int .i64 i82,.int .i64 i83],.int .i64 0,.sl .lent (cut 0 l86.length l86),.int .i64 1] [U90,U91]) fun r98=>
               nilK r98.outs <|
               zc1 r98.tbs fun c99 q100=>
               zc1 q100 fun c101 q102=>
               nilK q102 <|
               asI .i64 r98.r fun i103=>
               letN (IntKind.i64.wrap (i81 - 4)) fun n104=>
               brK ((i103 == 7) == decide (i87 > n104))
                (brK (i103 == 7)
                 (brK (i103 == 0)
                  (zar (za2 []) fun r105=>
                  asB r105 fun b106=>
                  some (.bool b106))
                  (asH ((2496:Nat)) x84 fun h107=>
                  zar (zaY [.h 2496 h107 0] [c99]) fun r108=>
                  nilK r108.outs <|
                  nilK r108.tbs <|
                  asI .i64 r108.r fun i109=>
                  brK (i109 == 0)
                   (zar (za2 []) fun r110=>
                   asB r110 fun b111=>
                   some (.bool b111))
                   (some (.bool false))))
                 (brK (i103 == 0)
                  (brK (i103 == 0)
                   (zar (za2 []) fun r112=>
                   asB r112 fun b113=>
                   some (.bool b113))
                   (asH ((2496:Nat)) x84 fun h114=>
                   zar (zaY [.h 2496 h114 0] [c99]) fun r115=>
                   nilK r115.outs <|
                   nilK r115.tbs <|
                   asI .i64 r115.r fun i116=>
                   brK (i116 == 0)
                    (zar (za2 []) fun r117=>
                    asB r117 fun b118=>
                    some (.bool b118))
                    (some (.bool false))))
                  (some (.bool false))))
                (some (.bool false))))
              ((((a79.1.1.1,a79.1.1.2.1,a79.1.1.2.2.1,unit),a79.1.2.1,a79.1.2.2.1,a79.1.2.2.2.1,(0:Int),(↑(List.length a79.1.2.2.1):Int),(0:Int),unit),a79.2.1,a79.2.2.1,unit)))
            (fun j119=>
            brK (i66 == 6)
             (sif (0≤i72) <|
             sif (i72.toNat < l70.length) <|
             getK (List.set (List.set l70 (0+i64.toNat) (.bool false)) (0+i65.toNat) (.bool false)) (0+i72.toNat) fun d120=>
             sif (D.isAgg d120=false) <|
             sif (l70.length=List.length (List.set (List.set (List.set l70 (0+i64.toNat) (D.bool false)) (0+i65.toNat) (D.bool false)) (0+i72.toNat) (D.bool false))) <|
             sif (l71.length=l71.length) <|
             j119 ((((i66,i67,i68,unit),x69,List.set (List.set (List.set l70 (0+i64.toNat) (.bool false)) (0+i65.toNat) (.bool false)) (0+i72.toNat) (.bool false),l71,unit),U73,U74,unit)))
             (sif (l70.length=List.length (List.set (List.set l70 (0+i64.toNat) (.bool false)) (0+i65.toNat) (.bool false))) <|
             sif (l71.length=l71.length) <|
             j119 ((((i66,i67,i68,unit),x69,List.set (List.set l70 (0+i64.toNat) (.bool false)) (0+i65.toNat) (.bool false),l71,unit),U73,U74,unit)))))))
         (((i60,i62,(c3.1,c3.2.1,c3.2.2.1,unit),r4.r,l11,l18,(0:Int),unit),c54,c56,unit)))))))))
theorem zh0 (zbD:Zp) (zba:Zs) (zbF zac zau:Zp) (zb6:Zs) (zaX:Zp) (zb8 zaY:Zs) (za2:Zp) (tga3:Tag) (a0 a1 a2:Int) (a3:List D) (a4 a5:Int):denT Tryz.prog (zay [(ID.wattleplay_Good,(.pure [0] zbD)),(ID.wattlelaw14_Filled,(.st [] [0] [(2496,true),(8225,true)] zba)),(ID.wattleplay_Live,(.pure [1] zbF)),(ID.wattlekeep_Within,(.pure [0] zac)),(ID.wattleplay_Sector,(.pure [1] zau)),(ID.update_Do,(.st [] [0] [(2496,true),(8225,true)] zb6)),(ID.wattleref01_Capacity,(.pure [0] zaX)),(ID.update_Empty,(.st [] [0] [(2496,true),(8225,true)] zb8)),(ID.bench_counter_Writes,(.st [] [0] [(2496,false)] zaY)),(ID.wattlelaw15_wakes,(.pure [0] za2))]) zej [0] ID.wattlelaw15_UpdateErrors [.int .i64 a0,.int .i64 a1,.int .i64 a2,.sl tga3 a3,.int .i64 a4,.int .i64 a5]=sif (D.nohL [.int .i64 a0,.int .i64 a1,.int .i64 a2,.sl tga3 a3,.int .i64 a4,.int .i64 a5]=true) (zdy zbD zba zbF zac zau zb6 zaX zb8 zaY za2 a0 a1 a2 (D.lentL a3) a4 a5):=by kernel_rfl
theorem zgM (tga3:Tag) (a0 a1 a2:Int) (a3:List D) (a4 a5:Int):F_wattlelaw15_UpdateErrors [.int .i64 a0,.int .i64 a1,.int .i64 a2,.sl tga3 a3,.int .i64 a4,.int .i64 a5]=sif (D.nohL [.int .i64 a0,.int .i64 a1,.int .i64 a2,.sl tga3 a3,.int .i64 a4,.int .i64 a5]=true) (zdy zbD zba zbF zac zau zb6 zaX zb8 zaY za2 a0 a1 a2 (D.lentL a3) a4 a5):=zh0 zbD zba zbF zac zau zb6 zaX zb8 zaY za2 tga3 a0 a1 a2 a3 a4 a5
end Wf

namespace Wf
open Go Go.RowKit Go.Proofs
set_option linter.unusedSimpArgs false
set_option linter.unusedVariables false
set_option maxHeartbeats 4000000
theorem zs7 {B:Ben} {live:List Bool} {g:Geo} {a:Int} {x:List Int} {seq e:Int} (h:(B.uPlan live g a x seq).2=e) (he:e≠0):B.uDo live g a x seq=(e,B):=by
 unfold Ben.uDo; rw [h,if_pos he]
theorem zu1 {B:Ben} {live:List Bool} {g:Geo} {a:Int} {x:List Int} {seq:Int} (hx:x.length=32) (h:a < 0∨g.cap≤a):(B.uPlan live g a x seq).2=4:=by
 have:(ofP g a).2.2=false:=by unfold ofP; rw [if_neg (by omega)]
 unfold Ben.uPlan; rw [if_neg (by simp [hx]),if_pos this]
theorem zAU {B:Ben} {live:List Bool} {g:Geo} {a:Int} {x:List Int} {seq:Int} (hx:x.length≠32):(B.uPlan live g a x seq).2=1:=by
 unfold Ben.uPlan; rw [if_pos hx]
theorem zEk {B:Ben} {live:List Bool} {seq:Int} {is:List Itm} (h:seq < 1):B.put live seq is=(1,B):=by
 have:recE seq is=1:=if_pos (.inl h);unfold Ben.put; rw [this]; rfl
theorem zzO {B:Ben} {live:List Bool} {g:Geo} (hg:g.d=live.length) (hn:B.n=g.d) (hf:∀ e,B.failed e=false):B.lostN live g=live.countP fun b=> !b:=by
 have e:live=(List.range live.length).map fun d=>(live[d]?).getD false:=by
  apply List.ext_getElem?;intro i
  by_cases hi:i < live.length
  ·rw [List.getElem?_map,List.getElem?_range hi,List.getElem?_eq_getElem hi]; simp [hi]
  ·rw [List.getElem?_eq_none (by omega),List.getElem?_eq_none (by simp; omega)]
 unfold Ben.lostN;rw [hg,Int.toNat_natCast]
 conv=>rhs; rw [e,List.countP_map]
 refine List.countP_congr fun d hd=>?_
 have:=List.mem_range.1 hd;unfold Ben.up
 rw [hf,hn,hg,decide_eq_true (show (d:Int) < (live.length:Int) by omega),Int.toNat_natCast]
 simp
theorem update_errors (a0 a1 a2:Int) (l:List Int) (a4 a5:Int) (tg:Tag):F_wattlelaw15_UpdateErrors [.int .i64 a0,.int .i64 a1,.int .i64 a2,.sl tg (intL l),.int .i64 a4,.int .i64 a5]=some (.bool true):=by
 rw [zgM,zkU]
 rw [zaa (by simp [D.nohL,D.noh,zER])]
 unfold zdy;have hgood:=zDB a0;have hk:=zBt a0;generalize zxW a0=g at*;have hgD:g.D=.agg [.int .i64 g.l,.int .i64 g.d,.int .i64 g.c]:=rfl;rw [hgD] at hgood;have hdd:=ok_d hk;have hll:=zei.1 hk;have hwd:=zca hk
 obtain ⟨n,hn⟩:∃ n:Nat,(n:Int)=g.d:=⟨g.d.toNat,by omega⟩
 have hfr:=zBM [] [] hk (n:=n) (by omega) (by omega) .lent l
 simp only [List.length_nil] at hfr;obtain ⟨U,V,idx,B0,hfil,hB0,hS0,hw0,hc0,_⟩:=hfr;rw [hn] at hfil
 have hlive:=zFI (d:=n) (by omega) (by omega)
 rw [hn] at hlive;have hfl:=hS0.failed
 have hstd0:∀ live,Std B0 live g fun r=>rowL g l r:=fun live r hr=>⟨zwE hk l r,fun e e0 e1 hu=>by
  have:=hc0 e r e0 e1 (by omega) (by omega) (by omega); rw [Int.toNat_natCast] at this; exact this⟩
 have hnof:∀ live,B0.NoF live:=fun live d _ _ _=>hfl d
 have hcap:zaX [.agg [.int .i64 g.l,.int .i64 g.d,.int .i64 g.c]]=some (.int .i64 g.cap):=zFK g
 have hca:1≤g.cap∧g.cap < 1000:=by rw [zAB]; omega
 have hww:=zHS
 have h1:=znF a1 1000 (by omega) (by omega)
 have p0:=Int.emod_nonneg a1 (show (1000:Int)≠0 by omega)
 have p1:=Int.emod_lt_of_pos a1 (show (0:Int) < 1000 by omega)
 generalize a1 % 1000=p at*
 have h2:=znF a2 32 (by omega) (by omega)
 have z0:=Int.emod_nonneg a2 (show (32:Int)≠0 by omega)
 have z1:=Int.emod_lt_of_pos a2 (show (0:Int) < 32 by omega)
 generalize a2 % 32=z at*
 have h4:=znF a4 g.d (by omega) (by omega)
 have q0:=Int.emod_nonneg a4 (show g.d≠0 by omega)
 have q1:=Int.emod_lt_of_pos a4 (show (0:Int) < g.d by omega)
 generalize a4 % g.d=a at*
 have h5:=znF a5 g.d (by omega) (by omega)
 have c0:=Int.emod_nonneg a5 (show g.d≠0 by omega)
 have c1:=Int.emod_lt_of_pos a5 (show (0:Int) < g.d by omega)
 generalize a5 % g.d=c at*
 have e1:IntKind.i64.wrap (1+p)=1+p:=zav (by omega) (by omega)
 have e2:IntKind.i64.wrap (0 - (1+p))=0 - (1+p):=zav (by omega) (by omega)
 have e3:IntKind.i64.wrap (g.cap - 1)=g.cap - 1:=zav (by omega) (by omega)
 have e4:IntKind.i64.wrap (g.cap - 1+(1+p))=g.cap - 1+(1+p):=zav (by omega) (by omega)
 have e5:IntKind.i64.wrap (g.l - 4)=g.l - 4:=zav (by omega) (by omega)
 have hsec:=zj5 (1+p);have hsx:=zwB (1+p);generalize secN (1+p)=x at*;have hxl:=hsx.len
 have hdo:=fun (live:List Bool) (n:Int) (tgx:Tag) (y:List Int) (hy:y.length=32→Sec y) (seq:Int)=>zEi hB0.at' (by have:=hB0.w; omega) .lent (hnof live) g n tgx hy seq
 have hem:=fun (live:List Bool) (seq:Int)=>zyD hB0.at' (by have:=hB0.w; omega) .lent (hnof live) seq
 have hlost0:(B0.lostN (List.replicate n true) g:Int)≤g.l - 4:=by
  have:=zFP (B:=B0) (live:=List.replicate n true) (g:=g) (d:= -1) (by omega) fun e e0 e1 he=>by rw [zD5 hB0.num e0,hfl e]; simp; omega
  omega
 generalize hlve:List.replicate n true=live0 at*
 have hlen0:live0.length=n:=by rw [←hlve]; simp
 have d1:=hdo live0 (0 - (1+p)) .lent x (fun _=>hsx) 1
 rw [zs7 (zu1 hxl (.inl (by omega))) (by omega)] at d1
 have d2:=hdo live0 (g.cap - 1+(1+p)) .lent x (fun _=>hsx) 1
 rw [zs7 (zu1 hxl (.inr (by omega))) (by omega)] at d2
 have hxt:(x.take z.toNat).length=z.toNat:=by rw [List.length_take]; omega
 have d3:=hdo live0 0 .lent (x.take z.toNat) (fun q=>by omega) 1
 rw [zs7 (zAU (by omega)) (by omega)] at d3
 have d4:=hdo live0 (0 - (1+p)) .nil [] (fun q=>by cases q) 1
 rw [zs7 (zAU (by simp)) (by omega)] at d4
 have d5:=hdo live0 0 .lent x (fun _=>hsx) 0
 have d5':B0.uDo live0 g 0 x 0=(1,B0):=by
  unfold Ben.uDo
  rw [zs6 (hstd0 live0) hlost0 hB0.down (by omega) (by omega) hsx 0]
  dsimp only
  rw [if_neg (by simp),zEk (by omega),if_pos (by simp)]
 rw [d5'] at d5;have d6:=hem live0 (0 - (1+p))
 rw [zEk (by omega)] at d6
 dsimp only at d1 d2 d3 d4 d5 d6
 have hct:cut 0 z.toNat (uL x)=uL (x.take z.toNat):=by rw [zxw,List.drop_zero,zr2]
 have hnil:([]:List D)=uL []:=rfl;rw [hgood,zab,zet,zch,zch,zch,zcr];dsimp only;rw [hfil,zab];dsimp only
 rw [zaF,za1,za1,zaF,zaa (by rfl),zy7,zas,hlive,zab,zbA,h1,zab,zaR,zam,e1,h2,zab,zaR,hsec,zab,zbA,zaa (by omega),zaa (by omega),zb5,zb5,e2,d1,zab]
 dsimp only
 rw [zaF,za1,za1,zaF,zaR,zfX rfl,hcap,zab,zaR,zam,e3,zam,e4,zaa (by omega),zaa (by omega),d2,zab]
 dsimp only
 rw [zaF,za1,za1,zaF,zaR,zfX rfl,zaa z0,zaa (by rw [zcC]; omega),zaa (by omega),show z - 0=z by omega,zaa (by rw [zcC]; omega),hct,d3,zab]
 dsimp only
 rw [zaF,za1,za1,zaF,zaR,zfX rfl,zaa (by omega),show D.sl Tag.nil []=D.sl Tag.nil (uL []) from rfl,d4,zab]
 dsimp only
 rw [zaF,za1,za1,zaF,zaR,zfX rfl,zaa (by omega),zaa (by omega),d5,zab]
 dsimp only
 rw [zaF,za1,za1,zaF,zaR,zfX rfl,zaa (by omega),d6,zab]
 dsimp only;rw [zaF,za1,za1,zaF,zaR,zfX rfl,h4,zab,zaR,h5,zab,zaR,zaa rfl,zaa rfl]
 have hlb:(live0.map D.bool).length=n:=by rw [List.length_map,hlen0]
 refine zgb (fun s=>10 - s.1.2.2.2.2.2.2.1.toNat) (fun _=>some (D.bool true)) (fun s=>∃ k:Nat,k≤2∧(∀ j:Nat,j < k→(j:Int)=a∨(j:Int)=c)∧
  s=((a,c,(g.l,g.d,g.c,PUnit.unit),D.h kB 0 0,live0.map D.bool,uL x,(k:Int),PUnit.unit),P0 U 0 idx B0,P1 V idx B0,PUnit.unit)) ?_ ⟨0,by omega,fun j hj=>absurd hj (Nat.not_lt_zero _),rfl⟩ (by simp)
 rintro again _ ⟨k,hk2,hka,rfl⟩ ih
 dsimp only
 have hnext:(k:Int)=a∨(k:Int)=c→again ((a,c,(g.l,g.d,g.c,PUnit.unit),D.h kB 0 0,live0.map D.bool,uL x,((k+1:Nat):Int),PUnit.unit),P0 U 0 idx B0,P1 V idx B0,PUnit.unit)=some (D.bool true):=fun hkk=>by
  refine ih _ ⟨k+1,?_,fun j hj=>?_,rfl⟩ (by dsimp only; omega)
  ·have:=hka 0; have:=hka 1; omega
  ·by_cases e:j=k
   ·rw [e]; exact hkk
   ·exact hka j (by omega)
 by_cases hka1:(k:Int)=a
 ·rw [zkV hka1,zam,zcZ (by omega),zaa rfl,zaa rfl]
  exact hnext (.inl hka1)
 rw [zqo hka1]
 by_cases hkc1:(k:Int)=c
 ·rw [zkV hkc1,zam,zcZ (by omega),zaa rfl,zaa rfl]
  exact hnext (.inr hkc1)
 rw [zqo hkc1];clear ih hnext
 have hgb:∀ (lv:List Bool) (i:Nat),lv.length=n→i < n→∀ f:D→Option D,getK (lv.map D.bool) i f=f (.bool ((lv[i]?).getD false)):=fun lv i hl hi f=>by
  have:lv[i]? =some lv[i]:=List.getElem?_eq_getElem (by omega)
  exact zap (by rw [List.getElem?_map,this]; rfl) f
 have hsb:∀ (lv:List Bool) (i:Nat),(lv.map D.bool).set i (.bool false)=(lv.set i false).map D.bool:=fun lv i=>zD8 lv i false
 have ia:∀ b:Bool,D.isAgg (.bool b)=false:=fun _=>rfl
 rw [zaa q0,zaa (by omega),Nat.zero_add,hgb live0 _ hlen0 (by omega),zaa (ia _),zaa c0,zaa (by omega),hsb,Nat.zero_add,hgb _ _ (by simp [hlen0]) (by omega),zaa (ia _)]
 refine zHH (fun s=>∃ live:List Bool,live.length=n∧s=(((g.l,g.d,g.c,PUnit.unit),D.h kB 0 0,live.map D.bool,uL x,PUnit.unit),P0 U 0 idx B0,P1 V idx B0,PUnit.unit)) ?_ ?_
 ·rintro _ ⟨live,hlen,rfl⟩
  dsimp only
  have hlm:(live.map D.bool).length=n:=by rw [List.length_map,hlen]
  rw [zaa (by omega),zaa rfl,zaa rfl,zaa rfl,hlm]
  let st:Nat→((Int×Int×Int×PUnit)×D×List D×List D×Int×Int×Int×PUnit)×List (List D)×List (List D)×PUnit:=fun j=>(((g.l,g.d,g.c,PUnit.unit),D.h kB 0 0,live.map D.bool,uL x,(((live.take j).countP fun b=> !b:Nat):Int),(n:Int),(j:Int),PUnit.unit),P0 U 0 idx B0,P1 V idx B0,PUnit.unit)
  show zb2 _ (st 0)=_
  refine zcp st n (by omega) ?_ ?_
  ·intro again2 j hj;dsimp only [st]
   have hj2:(j:Int) < (n:Int):=by omega
   have hg:live[j]? =some live[j]:=List.getElem?_eq_getElem (by omega)
   have hcs:(live.take (j+1)).countP (fun b=> !b)=(live.take j).countP (fun b=> !b)+if live[j]=false then 1 else 0:=by
    rw [List.take_add_one,hg,List.countP_append];cases live[j]<;>rfl
   have hcl:(live.take j).countP (fun b=> !b)≤j:=by
    have:=List.countP_le_length (p:=fun b=> !b) (l:=live.take j)
    rw [List.length_take] at this; omega
   rw [hcs,decide_eq_true hj2,zaI,zaa (by omega),Int.toNat_natCast,zaa (by omega),Nat.zero_add,hgb live j hlen hj,zbo,hg,zJx]
   cases hv:live[j]
   ·show brK true _ _=_
    rw [zaI,zam,zcZ (by omega),zaa rfl,zaa rfl,zaa rfl]
    dsimp only
    rw [zam,zcZ (by omega),zaa rfl,zaa rfl,zaa rfl,if_pos rfl]
   ·show brK false _ _=_;rw [zas,zaa rfl,zaa rfl,zaa rfl];dsimp only
    rw [zam,zcZ (by omega),zaa rfl,zaa rfl,zaa rfl,if_neg (by simp)]
    rfl
  ·intro again2;dsimp only [st]
   rw [List.take_of_length_le (by omega)]
   have hlc:=zzO (B:=B0) (live:=live) (g:=g) (by omega) (by rw [hB0.num,hn]) hfl
   rw [←hlc]
   have hd:=hdo live 0 .lent x (fun _=>hsx) 1
   have hH:∀ f:Nat→Option D,asH 2496 (D.h kB 0 0) f=f 0:=fun f=>zJw ..
   rw [zgG (by omega),zaa (by omega),zaa (by omega),zb5,zb5]
   by_cases hls:(B0.lostN live g:Int)≤g.l - 4
   ·obtain ⟨u1,u2⟩:=zF0 hB0.at'.ok hB0.down (by rw [hB0.left]; omega) (hstd0 live) hls (a:=0) (by omega) (by omega) hsx (seq:=1) (by omega) (by omega)
    rw [u1] at hd;rw [hd,zab];dsimp only
    rw [zaF,za1,za1,zaF,zaR,zam,e5,show decide ((B0.lostN live g:Int) > g.l - 4)=false from decide_eq_false (by omega)]
    show brK true _ _=_
    rw [zaI,zqo (by omega),zkV rfl,zkV rfl,hww,zab,zbo]
   ·have hpl:(B0.uPlan live g 0 x 1).2=7:=by
     obtain ⟨hpf,k0,k1,k2⟩:=zgE (g:=g) (a:=0) (by omega) (by omega)
     obtain ⟨_,r0,r1⟩:=zbJ.1 hpf
     have hof:ofP g 0=(zcO g (rowG g 0) (zcP g 0),rowG g 0,true):=if_pos ⟨by omega,by omega⟩
     obtain ⟨hR,hs⟩:=hstd0 live (rowG g 0).toNat (by omega)
     rw [show (((rowG g 0).toNat:Nat):Int)=rowG g 0 by omega] at hs
     have:B0.sRead live g (rowG g 0)=([],7):=by
      unfold Ben.sRead
      rw [if_neg (by simp [hpf]),if_neg (by simp [hB0.down]),zsc hpf hR hs,if_neg hls]
     unfold Ben.uPlan
     rw [if_neg (by simp [hxl]),hof]
     dsimp only
     rw [if_neg (by simp),this]
     rfl
    rw [zs7 hpl (by omega)] at hd
    have hwr:=zFq hB0.at';rw [hw0] at hwr;rw [hd,zab];dsimp only
    rw [zaF,za1,za1,zaF,zaR,zam,e5,show decide ((B0.lostN live g:Int) > g.l - 4)=true from decide_eq_true (by omega)]
    show brK true _ _=_
    rw [zaI,zkV rfl,zqo (by omega),hH,hwr,zab]
    dsimp only;rw [zaF,zaF,zaR,zkV rfl,hww,zab,zbo]
 ·intro j119 hj
  have ll1:∀ (lv:List Bool),(lv.map D.bool).length=lv.length:=fun lv=>by simp
  by_cases h6:g.l=6
  ·rw [zkV h6,zaa (by omega),zaa (by omega),hsb,Nat.zero_add,hgb _ _ (by simp [hlen0]) (by omega),zaa (ia _),hsb,zaa (by simp),zaa rfl]
   exact hj _ ⟨_,by simp [hlen0],rfl⟩
  ·rw [zqo h6,hsb,zaa (by simp),zaa rfl]
   exact hj _ ⟨_,by simp [hlen0],rfl⟩
end Wf

