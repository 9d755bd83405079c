/- A part of the proof: lemmas that the law's row leans on. -/
import Derived.Test.YtlbdpbbpoghncaaPe
import Derived.Test.YtlbdpbbpoghncaaPd
set_option linter.all false
namespace Wf
open Go Go.RowKit Go.Proofs
set_option linter.unusedSimpArgs false
set_option linter.unusedVariables false
theorem zy2 (l:List Int):(intL l).all D.free=true:=by simp [intL,D.free]
theorem zy3 (l:List Int) (n:Int):intL l++[.int .i64 n]=intL (l++[n]):=by simp [intL]
def zvi (ls:List (List Int)) (k:Nat):List Int:=((List.range k).filter fun i=>(ls.getD i []).isEmpty).map Int.ofNat
def miss (ls:List (List Int)):List Int:=zvi ls ls.length
theorem zxd (ls:List (List Int)) (k:Nat):zvi ls (k+1)=zvi ls k++if (ls.getD k []).isEmpty then [(k:Int)] else []:=by
  unfold zvi
  rw [List.range_succ,List.filter_append,List.map_append]
  congr 1
  by_cases h:(ls.getD k []).isEmpty=true
  · rw [if_pos h,List.filter_cons_of_pos (p:=fun i=>(ls.getD i []).isEmpty) h]; rfl
  · rw [if_neg h,List.filter_cons_of_neg (p:=fun i=>(ls.getD i []).isEmpty) h]; rfl
theorem zy4 (ls:List (List Int)) (k:Nat):(zvi ls k).length≤k:=by
  unfold zvi
  rw [List.length_map]
  exact Nat.le_trans (List.length_filter_le _ _) (by simp)
theorem zms (tg:Tag) (ps:List Part) (hn:ps.length < 100000):zbw [.sl tg (pL ps)]=some (.sl .own (intL (miss (ps.map (·.2))))):=by
  rw [zl4,zcZ]
  have hm:(ps.map fun x=>(zbU x.1 x.2,x.2)).map (·.2)=ps.map (·.2):=by rw [List.map_map]; rfl
  have hlen:(ps.map fun x=>(zbU x.1 x.2,x.2)).length=ps.length:=by simp
  rw [←hm]
  rw [←hlen] at hn
  generalize (ps.map fun x=>(zbU x.1 x.2,x.2))=rs at*
  unfold zgb
  let st:Nat→(List D×List D×Int×Int×PUnit)×PUnit:=fun k=>((intL (zvi (rs.map (·.2)) k),pL rs,((pL rs).length:Int),(k:Int),PUnit.unit),PUnit.unit)
  have hst:st 0=(([],pL rs,((pL rs).length:Int),0,PUnit.unit),PUnit.unit):=rfl
  rw [←hst]
  refine zcQ st rs.length (by omega) ?_ ?_
  · intro again k hk
    dsimp only [st]
    obtain ⟨x,hx⟩:∃ x,rs[k]? =some x:=⟨_,List.getElem?_eq_getElem hk⟩
    have hd:decide ((k:Int) < ((pL rs).length:Int))=true:=by simp; omega
    have hk2:=zy4 (rs.map (·.2)) k
    have hgd:(rs.map (·.2)).getD k []=x.2:=by simp [List.getD_eq_getElem?_getD,hx]
    rw [hd,za6,zae (by omega),zaq (by simpa using zdQ hx),zf0,zxd,hgd]
    by_cases he:x.2=[]
    · have hb:(((uL x.2).length:Int) == 0)=true:=by simp [he]
      rw [hb,za6,zae (by rw [zhW]; omega),zae (by rfl),zaZ,zah (by omega) (by omega),zae (by simp),zy3,he]
      rfl
    · have hb:(((uL x.2).length:Int) == 0)=false:=by simp; omega
      have hb2:x.2.isEmpty=false:=by simp [he]
      rw [hb,zaw,zaZ,zah (by omega) (by omega),zae (by rfl),hb2]
      simp
  · intro again
    dsimp only [st]
    have hd:decide ((rs.length:Int) < ((pL rs).length:Int))=false:=by simp
    rw [hd,zaw,zae (by rfl),zae (zy2 _)]
    simp [miss]
theorem zEk (t:Tag) (l:List Int) (n:Int):zax [.sl t (uL l),.at_ (.int .i64 n)]=some (.bool (!fitS n l)):=by
  rw [zmU,zcX]
  unfold zgT fitS
  cases l with
  | nil=>simp
  | cons a l=>
    have hd:decide (((uL (a::l)).length:Int) > 0)=true:=by simp
    rw [hd,za6]
    simp [bne]
    rfl
theorem zqs (tg:Tag) (ps:List Part) (hn:ps.length < 100000) (n:Int):
    ∃ r,zag [.sl tg (pL ps),.fn ID.erase_fits_1 [] [.at_ (.int .i64 n)]]=some r∧∃ i:Int,r=.int .i64 i∧decide (i≥0)= !(ps.all fun x=>fitS n x.2):=by
  rw [zdG,zcZ]
  have hm:(ps.all fun x=>fitS n x.2)=((ps.map fun x=>(zbU x.1 x.2,x.2)).all fun x=>fitS n x.2):=by rw [List.all_map]; rfl
  have hlen:(ps.map fun x=>(zbU x.1 x.2,x.2)).length=ps.length:=by simp
  rw [hm]
  rw [←hlen] at hn
  generalize (ps.map fun x=>(zbU x.1 x.2,x.2))=rs at*
  unfold zb4
  refine zv2 (fun a=>(rs.length:Nat) - a.1.2.2.2.1.toNat) (fun r=>∃ i:Int,r=D.int .i64 i∧decide (i≥0)= !(rs.all fun x=>fitS n x.2))
    (fun a=>∃ k:Nat,k≤rs.length∧((rs.take k).all fun x=>fitS n x.2)=true∧a=((pL rs,n,(rs.length:Int),(k:Int),PUnit.unit),PUnit.unit)) ?_ ⟨0,by omega,by simp,by rw [zuh]; rfl⟩ (by simp; omega)
  rintro again _ ⟨k,hk,he,rfl⟩ hag
  dsimp only
  by_cases hkm:k < rs.length
  · obtain ⟨x,hx⟩:∃ x,rs[k]? =some x:=⟨_,List.getElem?_eq_getElem hkm⟩
    have hd:decide ((k:Int) < (rs.length:Int))=true:=by simp; omega
    rw [hd,za6,zae (by omega),zaq (by simpa using zdQ hx),zf0,zEk,zad,zcl]
    cases hf:fitS n x.2
    · refine ⟨_,rfl,_,rfl,?_⟩
      have:(rs.all fun x=>fitS n x.2)=false:=by
        rw [List.all_eq_false]
        exact ⟨x,List.mem_of_getElem? hx,by simp [hf]⟩
      rw [this]
      simp
    · simp only [Bool.not_true,zaw,zaZ]
      rw [zah (by omega) (by omega)]
      refine hag _ ⟨k+1,by omega,?_,rfl⟩ (by simp; omega)
      rw [List.take_add_one,hx,List.all_append,he]
      simp [hf]
  · have hd:decide ((k:Int) < (rs.length:Int))=false:=by simp; omega
    rw [hd,zaw]
    refine ⟨_,rfl,_,rfl,?_⟩
    rw [List.take_of_length_le (by omega)] at he
    rw [he]
    rfl
theorem erase_fits (tg:Tag) (ps:List Part) (hn:ps.length < 100000) (n:Int):zbW [.int .i64 n,.sl tg (pL ps)]=some (.bool (ps.all fun x=>fitS n x.2)):=by
  rw [zpv,zcZ]
  have hm:(ps.all fun x=>fitS n x.2)=((ps.map fun x=>(zbU x.1 x.2,x.2)).all fun x=>fitS n x.2):=by rw [List.all_map]; rfl
  have hlen:(ps.map fun x=>(zbU x.1 x.2,x.2)).length=ps.length:=by simp
  rw [hm]
  rw [←hlen] at hn
  generalize (ps.map fun x=>(zbU x.1 x.2,x.2))=rs at*
  unfold zjv
  have:zac [.sl .lent (pL rs),.fn ID.erase_fits_1 [] [.at_ (.int .i64 n)]]=some (.bool (!(rs.all fun x=>fitS n x.2))):=by
    rw [zdf,zcZ]
    have hm:(rs.all fun x=>fitS n x.2)=((rs.map fun x=>(zbU x.1 x.2,x.2)).all fun x=>fitS n x.2):=by rw [List.all_map]; rfl
    have hlen:(rs.map fun x=>(zbU x.1 x.2,x.2)).length=rs.length:=by simp
    rw [hm]
    rw [←hlen] at hn
    generalize (rs.map fun x=>(zbU x.1 x.2,x.2))=qs at*
    unfold zbT
    obtain ⟨r,h1,i,rfl,h2⟩:=zqs .lent qs hn n
    rw [h1,zad,zbp,h2]
  rw [this,zad,zcl,Bool.not_not]
theorem zCl {l:List D} {n:Nat} (h:l.length=n):cut 0 n l=l:=by subst h; exact zdO l
theorem erase_filled (n:Nat) (hn0:n < 100000) (tg:Tag) (ps:List Part) (hn:ps.length < 100000):zbD [.int .i64 n,.sl tg (pL ps)]=some (.sl .own (pL (ps.map fun x=>(Tag.fresh,znP n x.2)))):=by
  rw [zmW,zcZ]
  have hm:(ps.map fun x=>(Tag.fresh,znP n x.2))=((ps.map fun x=>(zbU x.1 x.2,x.2)).map fun x=>(Tag.fresh,znP n x.2)):=by rw [List.map_map]; rfl
  have hlen:(ps.map fun x=>(zbU x.1 x.2,x.2)).length=ps.length:=by simp
  rw [hm]
  rw [←hlen] at hn
  generalize (ps.map fun x=>(zbU x.1 x.2,x.2))=rs at*
  unfold zgU
  let st:Nat→(Int×List D×List D×Int×Int×PUnit)×PUnit:=fun k=>(((n:Int),pL ((rs.take k).map fun x=>(Tag.fresh,znP n x.2)),pL rs,((pL rs).length:Int),(k:Int),PUnit.unit),PUnit.unit)
  have hst:st 0=(((n:Int),[],pL rs,((pL rs).length:Int),0,PUnit.unit),PUnit.unit):=rfl
  rw [←hst]
  refine zcQ st rs.length (by omega) ?_ ?_
  · intro again k hk
    dsimp only [st]
    obtain ⟨x,hx⟩:∃ x,rs[k]? =some x:=⟨_,List.getElem?_eq_getElem hk⟩
    have hd:decide ((k:Int) < ((pL rs).length:Int))=true:=by simp; omega
    have hfill:([]++List.take (Int.toNat (n:Int)) (uL x.2)++List.drop ((0:Nat)+List.length (List.take (Int.toNat (n:Int)) (uL x.2))) (List.replicate (Int.toNat (n:Int)) (D.int IntKind.u8 (0:Int))))=uL (znP n x.2):=by
      rw [Int.toNat_natCast,zuR,ztN,zuS,Nat.zero_add,zfl,List.nil_append,←zyA]; rfl
    rw [hd,za6,zae (by omega),zaq (by simpa using zdQ hx),zf0,zae (by omega),zae (by rfl),zae (by omega),zae (by omega),zae (by simp),zae (zv7 _),hfill,zae (by simp [zje]),zae (by simp; omega),zae (by rfl),
      zaZ,zah (by omega) (by omega),zae (by simp),zCl (by simp [zje]),zyZ]
    have:(rs.take (k+1)).map (fun x=>(Tag.fresh,znP n x.2))=(rs.take k).map (fun x=>(Tag.fresh,znP n x.2))++[(Tag.fresh,znP n x.2)]:=by rw [List.take_add_one,hx]; simp
    rw [this]
    rfl
  · intro again
    dsimp only [st]
    have hd:decide ((rs.length:Int) < ((pL rs).length:Int))=false:=by simp
    rw [hd,zaw,zae (by rfl),List.take_length,zae (zpQ (by intro x hx; obtain ⟨y,hy,rfl⟩:=List.mem_map.1 hx; rfl))]
def fP (ls:List (List Int)):List Part:=ls.map fun l=>(Tag.fresh,l)
@[simp] theorem zDA (ls:List (List Int)):(fP ls).length=ls.length:=by simp [fP]
theorem zwn (ls:List (List Int)):(fP ls).map (·.2)=ls:=by
  unfold fP
  rw [List.map_map]
  exact List.map_id ls
theorem zgl (ls:List (List Int)):(pL (fP ls)).all D.free=true:=zpQ (by intro x hx; obtain ⟨y,_,rfl⟩:=List.mem_map.1 hx; rfl)
theorem zDB (ls:List (List Int)) (i:Nat) (l:List Int):(fP ls).set i (Tag.fresh,l)=fP (ls.set i l):=by simp [fP,List.map_set]
theorem zy5 {ls:List (List Int)} {k:Nat} {l:List Int} (h:ls[k]? =some l):(fP ls)[k]? =some (Tag.fresh,l):=by simp [fP,h]
theorem zAw (ps:List Part):(ps.map fun x=>(Tag.fresh,znP 32 x.2))=fP (zfB (ps.map (·.2))):=by simp [fP,zfB]
theorem zAx (ls:List (List Int)):miss ls=(zgO ls).map Int.ofNat:=rfl
theorem zxe (k:Nat) (hk:k < 100000):zaL [.int .i64 k]=some (.int .u8 (pow8 (k % 255))):=by
  have h:=zuj (k % 255) (Nat.mod_lt _ (by omega))
  rw [zpy] at h ⊢
  unfold zoi at h ⊢
  have e1:Int.tmod (k:Int) 255=((k % 255:Nat):Int):=by rw [Int.tmod_eq_emod_of_nonneg (by omega)]; omega
  have e2:Int.tmod ((k % 255:Nat):Int) 255=((k % 255:Nat):Int):=by rw [Int.tmod_eq_emod_of_nonneg (by omega)]; omega
  rw [e1]
  rw [e2] at h
  exact h
theorem zDC {a:Nat} (ha:a < 256):zdS [.int .u8 a]=some (.int .i64 (if logN a=255 then -1 else (logN a:Int))):=by
  rw [zva]
  unfold zsr
  refine zfK (a:=(((a:Int),(1:Int),(0:Int),PUnit.unit),PUnit.unit)) (fun x=>(255 - x.1.2.2.1).toNat) (fun x=>some (D.int .i64 (if logF a (255 - x.1.2.2.1.toNat) x.1.2.1.toNat x.1.2.2.1.toNat=255 then -1 else (logF a (255 - x.1.2.2.1.toNat) x.1.2.1.toNat x.1.2.2.1.toNat:Int))))
    (fun x=>∃ n y:Nat,n≤255∧y < 256∧x=(((a:Int),(y:Int),(n:Int),PUnit.unit),PUnit.unit)) ?_ ⟨0,1,by omega,by omega,rfl⟩ (by simp)
  rintro again _ ⟨n,y,hn,hy,rfl⟩ hag
  dsimp only
  rw [Int.toNat_natCast,Int.toNat_natCast]
  by_cases h:n < 255
  · have e:255 - n=(255 - (n+1))+1:=by omega
    have hd:decide ((n:Int) < 255)=true:=by simp; omega
    rw [hd,za6,e]
    by_cases hya:y=a
    · subst hya
      have:logF y (255 - (n+1)+1) y n=n:=by unfold logF; rw [if_pos rfl]
      rw [this,if_neg (by omega)]
      simp
    · have hb:((y:Int) == (a:Int))=false:=by simp; omega
      have:logF a (255 - (n+1)+1) y n=logF a (255 - (n+1)) (dblN y) (n+1):=by rw [logF,if_neg hya]
      have hh:=hag (((a:Int),((dblN y:Nat):Int),((n+1:Nat):Int),PUnit.unit),PUnit.unit) ⟨n+1,dblN y,by omega,zyw hy,rfl⟩ (by dsimp only; omega)
      dsimp only at hh
      rw [Int.toNat_natCast,Int.toNat_natCast] at hh
      rw [hb,zaw,gf_double,zad,zbp,zaZ,zah (by omega) (by omega),zyx hy,this]
      exact hh
  · have:n=255:=by omega
    subst this
    simp [logF]
theorem zA8 {a:Int} (ha:Byt a):zcn [.int .u8 a]=some (.int .u8 (inv8 a)):=by
  obtain ⟨m,hm,rfl⟩:=zjd ha
  rw [zvb]
  unfold zss inv8 invN
  rw [Int.toNat_natCast]
  by_cases h0:m=0
  · subst h0; simp
  · obtain ⟨h1,h2⟩:=zB3 m hm h0
    have hb:((m:Int) == 0)=false:=by simp; omega
    rw [hb,zaw,zDC hm,zad,zbp,if_neg (by omega),if_neg h0,zaZ,zah (by omega) (by omega),show (255:Int) - (logN m:Int)=((255 - logN m:Nat):Int) by omega,zxe _ (by omega),zad,zbp,zv4]
section
variable {ps:List Part} (h1:0 < ps.length) (h8:ps.length≤8) (hs:∀ x∈ps,x.2.length=32)
include h1 h8 hs
theorem by_q (tq tg:Tag) {q:List Int} (hq:q.length=32) {k:Nat} (hk:k < 8):
    zcd [.sl tq (uL q),.sl tg (pL ps),.int .i64 k]=some (.sl .own (uL (byQ q (ps.map (·.2)) k))):=by
  rw [zqg,zcX,zcZ]
  have hm:(ps.map fun x=>(zbU x.1 x.2,x.2)).map (·.2)=ps.map (·.2):=by rw [List.map_map]; rfl
  have hlen:(ps.map fun x=>(zbU x.1 x.2,x.2)).length=ps.length:=by simp
  have hs':∀ x∈(ps.map fun x=>(zbU x.1 x.2,x.2)),x.2.length=32:=by intro x hx; obtain ⟨y,hy,rfl⟩:=List.mem_map.1 hx; exact hs y hy
  rw [←hm]
  rw [←hlen] at h1 h8
  generalize (ps.map fun x=>(zbU x.1 x.2,x.2))=rs at*
  unfold zld
  have hQ:=zy1 (n:=32) .lent (ps:=rs) (by omega) h1 (by omega) hs'
  have hr:Byt (inv8 (pow8 k)):=zv6 _
  have ha:(addL q (sumQ 32 (rs.map (·.2)))).length < 100000:=by unfold addL; split<;>simp<;>omega
  simp (disch:=first | omega | assumption | (simp; done) | fail) [-List.all_eq_true,hQ,zgK _ _ _ _ (show q.length < 100000 by omega),zuj k (by omega),zA8 (zz1 k),zhI _ _ ha hr.1 hr.2]
  rfl
theorem zDD (tp tq tg:Tag) {p q:List Int} (hp:p.length=32) (hq:q.length=32) {j k:Nat} (hj:j < 8) (hk:k < 8):
    zcr [.sl tp (uL p),.sl tq (uL q),.sl tg (pL ps),.int .i64 j,.int .i64 k]=some (.tup [.sl .own (uL (twoX p q (ps.map (·.2)) j k)),.sl .own (uL (twoY p q (ps.map (·.2)) j k))]):=by
  rw [zqe,zcX,zcX,zcZ]
  have hm:(ps.map fun x=>(zbU x.1 x.2,x.2)).map (·.2)=ps.map (·.2):=by rw [List.map_map]; rfl
  have hlen:(ps.map fun x=>(zbU x.1 x.2,x.2)).length=ps.length:=by simp
  have hs':∀ x∈(ps.map fun x=>(zbU x.1 x.2,x.2)),x.2.length=32:=by intro x hx; obtain ⟨y,hy,rfl⟩:=List.mem_map.1 hx; exact hs y hy
  rw [←hm]
  rw [←hlen] at h1 h8
  generalize (ps.map fun x=>(zbU x.1 x.2,x.2))=rs at*
  unfold zlc
  have hQ:=zy1 (n:=32) .lent (ps:=rs) (by omega) h1 (by omega) hs'
  have hP:=zy0 (n:=32) .lent (ps:=rs) (by omega) h1 (by omega) hs'
  have hr:Byt (inv8 (xor8 (pow8 j) (pow8 k))):=zv6 _
  have addl:∀ {a b:List Int},a.length≤32→(addL a b).length≤32:=by intro a b h; unfold addL; split<;>simp<;>omega
  have h2:(addL p (sumP 32 (rs.map (·.2)))).length≤32:=addl (by omega)
  have h3:(addL q (sumQ 32 (rs.map (·.2)))).length≤32:=addl (by omega)
  have h4:(addL (addL q (sumQ 32 (rs.map (·.2)))) ((addL p (sumP 32 (rs.map (·.2)))).map (mul8 · (pow8 k)))).length≤32:=addl h3
  simp (disch:=first | omega | assumption | (simp; done) | fail) [-List.all_eq_true,hQ,hP,zgK _ _ _ _ (show q.length < 100000 by omega),zgK _ _ _ _ (show p.length < 100000 by omega),zuj j (by omega),zuj k (by omega),zA8 (zv3 _ _),
    zhI _ _ (show (addL p (sumP 32 (rs.map (·.2)))).length < 100000 by omega) (zhq k).1 (zhq k).2,zgK _ _ _ _ (show (addL q (sumQ 32 (rs.map (·.2)))).length < 100000 by omega),zgK _ _ _ _ (show (addL p (sumP 32 (rs.map (·.2)))).length < 100000 by omega),
    zhI _ _ (show (addL (addL q (sumQ 32 (rs.map (·.2)))) ((addL p (sumP 32 (rs.map (·.2)))).map (mul8 · (pow8 k)))).length < 100000 by omega) hr.1 hr.2]
  exact ⟨rfl,rfl⟩
end
end Wf

namespace Wf
open Go Go.RowKit Go.Proofs
set_option linter.unusedSimpArgs false
set_option linter.unusedVariables false
set_option maxHeartbeats 4000000
def solD:Option (List (List Int))→D
  | none=>.tup [.sl .own [],.bool false]
  | some o=>.tup [.sl .own (pL (fP o)),.bool true]
theorem pLs (ls:List (List Int)) (i:Nat) (l:List Int):(pL (fP ls)).set i (.sl .fresh (uL l))=pL (fP (ls.set i l)):=by rw [zui,zDB]
theorem zsJ {ls:List (List Int)} {i:Nat} (h:i < ls.length):(pL (fP ls))[i]? =some (.sl .fresh (uL (ls.getD i []))):=by
  have e:ls[i]? =some (ls.getD i []):=by rw [List.getD_eq_getElem?_getD,List.getElem?_eq_getElem h]; rfl
  exact zdQ (zy5 e)
theorem zAy (tp tq tg:Tag) (p q:List Int) {ps:List Part} (hn:ps.length < 100000):
    zbP [.int .i64 32,.sl tp (uL p),.sl tq (uL q),.sl tg (pL ps)]=some (solD (zpe p q (ps.map (·.2)))):=by
  rw [zn1,zcX,zcX,zcZ]
  have hm:(ps.map fun x=>(zbU x.1 x.2,x.2)).map (·.2)=ps.map (·.2):=by rw [List.map_map]; rfl
  have hlen:(ps.map fun x=>(zbU x.1 x.2,x.2)).length=ps.length:=by simp
  rw [←hm]
  rw [←hlen] at hn
  generalize (ps.map fun x=>(zbU x.1 x.2,x.2))=rs at*
  clear hm hlen ps
  unfold zic zpe
  have hmi:=zms .lent rs hn
  rw [zAx] at hmi
  have hpq:zbw [.sl .full [.sl .lent (uL p),.sl .lent (uL q)]]=some (.sl .own (intL ((zgO [p,q]).map Int.ofNat))):=zms .full [(Tag.lent,p),(Tag.lent,q)] (by simp)
  have hfi:=erase_fits .lent rs hn 32
  have hfa:(rs.all fun x=>fitS 32 x.2)=(rs.map (·.2)).all (fitS 32):=by rw [List.all_map]; rfl
  rw [hfa] at hfi
  have hfpq:zbW [.int .i64 32,.sl .full [.sl .lent (uL p),.sl .lent (uL q)]]=some (.bool ([p,q].all (fitS 32))):=erase_fits .full [(Tag.lent,p),(Tag.lent,q)] (by simp) 32
  have hfl:zbD [.int .i64 32,.sl .lent (pL rs)]=some (.sl .own (pL (fP (zfB (rs.map (·.2)))))):=by
    have:=erase_filled 32 (by omega) .lent rs hn
    rw [zAw] at this
    exact this
  have hl:(rs.map (·.2)).length=rs.length:=by simp
  generalize hls:rs.map (·.2)=ls at*
  have hfill:(zfB ls).length=rs.length:=by rw [zjf,hl]
  by_cases c1:rs.length < 1
  · rw [if_pos (.inl (by omega))]
    simp (disch:=first | omega | assumption | (simp; done) | fail) [-List.all_eq_true,hmi,c1,solD]
  by_cases c2:8 < rs.length
  · rw [if_pos (.inr (.inl (by omega)))]
    simp (disch:=first | omega | assumption | (simp; done) | fail) [-List.all_eq_true,hmi,c1,c2,solD]
  cases c3:ls.all (fitS 32)
  · rw [if_pos (.inr (.inr (.inl rfl)))]
    simp (disch:=first | omega | assumption | (simp; done) | fail) [-List.all_eq_true,hmi,c1,c2,hfi,c3,solD]
  cases c4:[p,q].all (fitS 32)
  · rw [if_pos (.inr (.inr (.inr rfl)))]
    simp (disch:=first | omega | assumption | (simp; done) | fail) [-List.all_eq_true,-List.all_cons,hmi,c1,c2,hfi,c3,hfpq,c4,solD]
  rw [if_neg (by rintro (e | e | e | e)<;>first | omega | cases e)]
  have hml:(zgO ls).length≤8:=by
    have:(zgO ls).length≤ls.length:=by unfold zgO; exact Nat.le_trans (List.length_filter_le _ _) (by simp)
    omega
  have hml2:=zB5 p q
  have hml3:(zgO [p,q]).length≤2:=by rw [hml2]; split<;>split<;>omega
  by_cases c5:2 < (zgO ls).length+(zgO [p,q]).length
  · rw [if_pos c5]
    simp (disch:=first | omega | assumption | (simp; done) | fail) [-List.all_eq_true,-List.all_cons,hmi,c1,c2,hfi,c3,hfpq,c4,hpq,zhW,zah,solD]
  rw [if_neg c5]
  rcases hmm:zgO ls with _ | ⟨j,_ | ⟨k,_ | ⟨m,t⟩⟩⟩
  · rw [hmm] at c5 hmi
    simp (disch:=first | omega | assumption | (simp; done) | fail) [-List.all_eq_true,-List.all_cons,hmi,c1,c2,hfi,c3,hfpq,c4,hpq,zhW,zah,solD,hfl,zgl]
  · have hj:=zr6.1 (show j∈zgO ls by rw [hmm]; simp)
    rw [hmm] at c5 hmi
    have hi1:intL [(j:Int)]=[.int .i64 j]:=rfl
    have c6:¬ 2 < 1+((zgO [p,q]).length:Int):=by simp at c5; omega
    have hg:=zsJ (ls:=zfB ls) (i:=j) (by omega)
    dsimp only
    by_cases hp:0 < p.length
    · rw [if_pos hp]
      have hP:=zy0 (n:=32) .lent (ps:=fP (zfB ls)) (by omega) (by simp; omega) (by simp; omega) (by intro x hx; obtain ⟨l,hl,rfl⟩:=List.mem_map.1 hx; unfold zfB at hl; obtain ⟨y,_,rfl⟩:=List.mem_map.1 hl; exact zje 32 y)
      rw [zwn] at hP
      have hpl:p.length=32:=by
        simp [fitS] at c4
        rcases c4.1 with e | e
        · rw [e] at hp; cases hp
        · omega
      simp (disch:=first | omega | assumption | (simp; done) | fail) [-List.all_eq_true,-List.all_cons,hmi,c1,c2,hfi,c3,hfpq,c4,hpq,zhW,hi1,zah,solD,hfl,hP,hp,zgK,zaq hg,pLs,zgl,hfill,c6,D.isAgg]
    · rw [if_neg hp]
      have hq:q.length=32:=by
        have hp0:p=[]:=by cases p; rfl; simp at hp
        have hq0:¬ q=[]:=by intro e; rw [hml2,if_pos hp0,if_pos e] at c5; simp at c5
        simp [fitS] at c4
        rcases c4.2 with e | e
        · exact absurd e hq0
        · omega
      have hQ:=by_q (ps:=fP (zfB ls)) (by simp; omega) (by simp; omega) (by intro x hx; obtain ⟨l,hl,rfl⟩:=List.mem_map.1 hx; unfold zfB at hl; obtain ⟨y,_,rfl⟩:=List.mem_map.1 hl; exact zje 32 y) .lent .lent hq (k:=j) (by omega)
      rw [zwn] at hQ
      simp (disch:=first | omega | assumption | (simp; done) | fail) [-List.all_eq_true,-List.all_cons,hmi,c1,c2,hfi,c3,hfpq,c4,hpq,zhW,hi1,zah,solD,hfl,hQ,hp,zaq hg,pLs,zgl,hfill,c6,D.isAgg]
  · have hj:=zr6.1 (show j∈zgO ls by rw [hmm]; simp)
    have hk:=zr6.1 (show k∈zgO ls by rw [hmm]; simp)
    have hjk:j < k:=by have:=zuQ ls; rw [hmm] at this; simpa using this
    rw [hmm] at c5 hmi
    have hi1:intL [(j:Int),(k:Int)]=[.int .i64 j,.int .i64 k]:=rfl
    have c6:¬ 2 < 2+((zgO [p,q]).length:Int):=by simp at c5; simp [c5]
    have hp0:¬ p=[]:=by intro e; rw [hml2,if_pos e] at c5; simp at c5
    have hq0:¬ q=[]:=by intro e; rw [hml2,if_pos e] at c5; simp at c5
    have hpl:p.length=32∧q.length=32:=by
      simp [fitS] at c4
      exact ⟨by rcases c4.1 with e | e; exact absurd e hp0; omega,by rcases c4.2 with e | e; exact absurd e hq0; omega⟩
    have hT:=zDD (ps:=fP (zfB ls)) (by simp; omega) (by simp; omega) (by intro x hx; obtain ⟨l,hl,rfl⟩:=List.mem_map.1 hx; unfold zfB at hl; obtain ⟨y,_,rfl⟩:=List.mem_map.1 hl; exact zje 32 y) .lent .lent .lent hpl.1 hpl.2 (j:=j) (k:=k) (by omega) (by omega)
    rw [zwn] at hT
    have hg:=zsJ (ls:=zfB ls) (i:=j) (by omega)
    have hg2:=zsJ (ls:=(zfB ls).set j (twoX p q (zfB ls) j k)) (i:=k) (by simp; omega)
    dsimp only
    simp (disch:=first | omega | assumption | (simp; done) | fail) [-List.all_eq_true,-List.all_cons,hmi,c1,c2,hfi,c3,hfpq,c4,hpq,zhW,hi1,zah,solD,hfl,hT,zaq hg,zaq hg2,pLs,zgl,hfill,c6,D.isAgg]
  · rw [hmm] at c5; simp at c5; omega
end Wf

namespace Wf
open Go Go.RowKit Go.Proofs
set_option linter.unusedSimpArgs false
set_option linter.unusedVariables false
def zkF (n:Int) (i:Nat):Int:=IntKind.u8.wrap (IntKind.i64.wrap (n+IntKind.i64.wrap ((i:Int)*bits .or .i64 (IntKind.i64.wrap (n.tdiv 7)) 1)))
def secN (n:Int):List Int:=if n % 11=10 then List.replicate 32 0 else (List.range 32).map (zkF n)
theorem zAz (n:Int):Sec (secN n):=by
  unfold secN
  split
  · exact zyy
  · refine ⟨by simp,fun x h=>?_⟩
    obtain ⟨i,_,rfl⟩:=List.mem_map.1 h
    exact zpc _
theorem zpR (n:Int):za2 [.int .i64 n]=some (.sl .own (uL (secN n))):=by
  rw [ziO]
  unfold zd2
  rw [zpO n 11 (by omega) (by omega),zad,zbp]
  unfold secN
  by_cases h:n % 11=10
  · rw [if_pos h]; simp [h]; rfl
  · rw [if_neg h]
    have hb:(n % 11 == 10)=false:=by simp [h]
    rw [hb,zaw]
    have:=zcQ (R:=D) (α:=(Int×List D×Int×Int×PUnit)×PUnit)
      (fun k=>((n,uL ((List.range 32).map fun i=>if i < k then zkF n i else 0),32,(k:Int),PUnit.unit),PUnit.unit)) 32 (by omega)
      (B:=?B) (r:=some (.sl .own (uL ((List.range 32).map (zkF n))))) ?_ ?_
    · exact this
    · intro again k hk
      dsimp only
      have hd:decide ((k:Int) < 32)=true:=by simp; omega
      have hg:((List.range 32).map fun i=>if i < k then zkF n i else 0)[k]? =some 0:=by simp [hk]
      have hv:zkF n k=IntKind.u8.wrap (IntKind.i64.wrap (n+IntKind.i64.wrap ((k:Int)*bits .or .i64 (IntKind.i64.wrap (n.tdiv 7)) 1))):=rfl
      rw [hd,za6,zaZ,zaZ,zaZ,zaZ,zaZ,←hv,zae (by omega),zae (by simp; omega),zaq (by simpa using zq6 hg)]
      rw [zae (by rfl),zaZ,zah (n:=(k:Int)+1) (by omega) (by omega),zae (by simp)]
      have:(uL ((List.range 32).map fun i=>if i < k then zkF n i else 0)).set (0+Int.toNat (k:Int)) (.int .u8 (zkF n k))=uL ((List.range 32).map fun i=>if i < k+1 then zkF n i else 0):=by
        rw [zDh]
        congr 1
        apply List.ext_getElem?
        intro j
        rw [List.getElem?_set]
        by_cases hj:j < 32
        · by_cases hjk:k=j
          · subst hjk; simp [hj]
          · have:(0+Int.toNat (k:Int))≠j:=by simp; exact hjk
            rw [if_neg this]
            simp [hj]
            by_cases h1:j < k
            · rw [if_pos h1,if_pos (by omega)]
            · rw [if_neg h1,if_neg (by omega)]
        · simp [hj]
          omega
      rw [this]
      rfl
    · intro again
      have e:((List.range 32).map fun i=>if i < 32 then zkF n i else 0)=(List.range 32).map (zkF n):=by
        apply List.map_congr_left; intro i hi; rw [if_pos (List.mem_range.1 hi)]
      dsimp only
      rw [e]
      simp
def secL (l:List Int) (n:Nat):List (List Int):=(List.range n).map fun (i:Nat)=>secN (l.getD i (3*(i:Int)))
theorem zwo (l:List Int) (n:Nat):∀ x∈secL l n,Sec x:=by
  intro x hx; obtain ⟨i,_,rfl⟩:=List.mem_map.1 hx; exact zAz _
@[simp] theorem zwp (l:List Int) (n:Nat):(secL l n).length=n:=by simp [secL]
theorem zCm (ls:List (List Int)) (l:List Int):pL (fP ls)++[.sl .fresh (uL l)]=pL (fP (ls++[l])):=by simp [pL,fP]
theorem zuk (tg:Tag) (l:List Int) {n:Nat} (hn:n < 100000):zaO [.sl tg (intL l),.int .i64 n]=some (.sl .own (pL (fP (secL l n)))):=by
  rw [zik,zyq]
  unfold zdJ
  let st:Nat→(List D×Int×List D×Int×PUnit)×PUnit:=fun k=>((intL l,(n:Int),pL (fP (secL l k)),(k:Int),PUnit.unit),PUnit.unit)
  show zcs _ (st 0)=_
  refine zcQ st n hn ?_ ?_
  · intro again k hk
    dsimp only [st]
    have hd:decide ((k:Int) < (n:Int))=true:=by simp; omega
    have hs:secL l (k+1)=secL l k++[secN (l.getD k (3*(k:Int)))]:=by unfold secL; rw [List.range_succ,List.map_append]; rfl
    rw [hd,za6,zaZ,zhW,hs,←zCm]
    by_cases hkl:k < l.length
    · have hd2:decide ((k:Int) < (l.length:Int))=true:=by simp; omega
      have hg:l.getD k (3*(k:Int))=l[k]:=by simp [List.getD_eq_getElem?_getD,hkl]
      rw [hd2,za6,zae (by omega),zaq (by simpa using zzZ hkl),zbp,zpR,zad,zbH,zae (by omega),zae (by simp; omega),zae (by rfl),zaZ,zah (n:=(k:Int)+1) (by omega) (by omega),zdO,zae (by simp),hg]
      rfl
    · have hd2:decide ((k:Int) < (l.length:Int))=false:=by simp; omega
      have hg:l.getD k (3*(k:Int))=3*(k:Int):=by simp [List.getD_eq_getElem?_getD,List.getElem?_eq_none (show l.length≤k by omega)]
      rw [hd2,zaw,zah (n:=3*(k:Int)) (by omega) (by omega),zpR,zad,zbH,zae (by omega),zae (by simp; omega),zae (by rfl),zaZ,zah (n:=(k:Int)+1) (by omega) (by omega),zdO,zae (by simp),hg]
      rfl
  · intro again
    dsimp only [st]
    have hd:decide ((n:Int) < (n:Int))=false:=by simp
    rw [hd,zaw,zae (by rfl),zae (zgl _)]
end Wf

namespace Wf
open Go Go.RowKit Go.Proofs
set_option linter.unusedSimpArgs false
set_option linter.unusedVariables false
set_option maxHeartbeats 4000000
section
variable (g:Geo) (row k n:Int)
theorem zlp:zcm [.agg [.int .i64 g.l,.int .i64 g.d,.int .i64 g.c],.int .i64 row]=some (.bool (zcM g row)):=by
  rw [zu3]
  unfold zsh
  rw [show D.agg [.int .i64 g.l,.int .i64 g.d,.int .i64 g.c]=gD g.l g.d g.c from rfl,zeQ,zad]
  show asI IntKind.i64 (.int .i64 _) _=_
  rw [zbp]
  unfold zcM
  cases h:g.ok
  · have:zc4 g.l g.d g.c=false:=h
    simp [this]
  · have:zc4 g.l g.d g.c=true:=h
    by_cases h0:0≤row
    · simp [this,h0]
    · simp [this,h0]
theorem zj4:zaA [.agg [.int .i64 g.l,.int .i64 g.d,.int .i64 g.c],.int .i64 row]=some (.tup [.int .i64 (parP g row).1,.int .i64 (parP g row).2]):=zub g row
theorem zpS:zaJ [.agg [.int .i64 g.l,.int .i64 g.d,.int .i64 g.c],.int .i64 row,.int .i64 k]=some (.int .i64 (zeF g row k)):=zrn g row k
theorem zj5:zab [.agg [.int .i64 g.l,.int .i64 g.d,.int .i64 g.c]]=some (.int .i64 g.width):=zhH g
theorem zy6:zcw [.agg [.int .i64 g.l,.int .i64 g.d,.int .i64 g.c],.int .i64 n]=some (.tup [.int .i64 (ofP g n).1,.int .i64 (ofP g n).2.1,.bool (ofP g n).2.2]):=zAl g n
theorem zpT:zaM [.agg [.int .i64 g.l,.int .i64 g.d,.int .i64 g.c],.int .i64 row]=some (.sl .own (zuW g row)):=zxb g row
end
def zjO (g:Geo) (row:Int) (ls:List (List Int)):Nat→List Part
  | 0=>List.replicate g.d.toNat (Tag.nil,[])
  | k+1=>(zjO g row ls k).set (zeF g row (k:Int)).toNat (Tag.fresh,ls.getD k [])
def zy7 (g:Geo) (row:Int) (ls:List (List Int)) (p q:List Int):List Part:=
  if (parP g row).2 < 0 then (zjO g row ls g.width.toNat).set (parP g row).1.toNat (Tag.fresh,p)
  else ((zjO g row ls g.width.toNat).set (parP g row).1.toNat (Tag.fresh,p)).set (parP g row).2.toNat (Tag.fresh,q)
theorem zgm (g:Geo) (row:Int) (ls:List (List Int)) (k:Nat):(zjO g row ls k).length=g.d.toNat:=by
  induction k with
  | zero=>simp [zjO]
  | succ k ih=>simp [zjO,ih]
theorem zxf (g:Geo) (row:Int) (ls:List (List Int)) (k:Nat):∀ x∈zjO g row ls k,Part.free x=true:=by
  induction k with
  | zero=>intro x hx; rw [(List.mem_replicate.1 hx).2]; rfl
  | succ k ih=>
    intro x hx
    rcases List.mem_or_eq_of_mem_set hx with hx | hx
    · exact ih x hx
    · rw [hx]; rfl
theorem zwq {ps:List Part} (h:∀ x∈ps,Part.free x=true) (i:Nat) (l:List Int):∀ x∈ps.set i (Tag.fresh,l),Part.free x=true:=by
  intro x hx
  rcases List.mem_or_eq_of_mem_set hx with hx | hx
  · exact h x hx
  · rw [hx]; rfl
theorem zoj (t:Tag) (l:List D):D.isAgg (.sl t l)=false:=rfl
theorem zAA (n:Nat):pL (List.replicate n (Tag.nil,[]))=List.replicate n (D.sl .nil []):=by simp [pL,uL]
section
variable {g:Geo} {row:Int} (h:zcM g row=true)
include h
theorem zwr {ls:List (List Int)} {d:Int} (d0:0≤d) (d1:d < g.d) (h1:d≠(parP g row).1) (h2:d≠(parP g row).2):∀ k:Nat,(k:Int)≤g.width→
    (zjO g row ls k)[d.toNat]? =some (if zfb g d row < k then (Tag.fresh,ls.getD (zfb g d row).toNat []) else (Tag.nil,[]))
  | 0,_=>by
    obtain ⟨c0,c1,c2⟩:=zoh h d0 d1 h1 h2
    unfold zjO
    rw [List.getElem?_replicate,if_pos (by omega),if_neg (by omega)]
  | k+1,hk=>by
    obtain ⟨c0,c1,c2⟩:=zoh h d0 d1 h1 h2
    have hdi:=zsd h (k:=(k:Int)) (by omega) (by omega)
    have ih:=zwr (ls:=ls) d0 d1 h1 h2 k (by omega)
    unfold zjO
    rw [List.getElem?_set]
    by_cases e:zfb g d row=k
    · have e2:zeF g row k=d:=by rw [←e]; exact c2
      rw [if_pos (by rw [e2]),if_pos (by rw [zgm,e2]; omega),if_pos (by omega)]
      congr 3
      rw [e]; rfl
    · have e2:zeF g row k≠d:=fun e2=>e (ztU h c0 c1 (by omega) (by omega) (by rw [c2,e2]))
      rw [if_neg (by omega),ih]
      by_cases hlt:zfb g d row < k
      · rw [if_pos hlt,if_pos (by omega)]
      · rw [if_neg hlt,if_neg (by omega)]
theorem zxg (ls:List (List Int)) (p q:List Int) (hp:p=sumP 32 ls) (hq:q=sumQ 32 ls∨g.l=5):zy7 g row ls p q=fP (zji g row ls):=by
  obtain ⟨hk,r0,r1⟩:=zb2.1 h
  have hw:=zce hk
  obtain ⟨p0,p1,p2⟩:=zuX h
  have hpq:=zA4 h
  have hlen:(zy7 g row ls p q).length=g.d.toNat:=by unfold zy7; split<;>simp [zgm]
  apply List.ext_getElem?
  intro i
  by_cases hi:i < g.d.toNat
  · have hr:(fP (zji g row ls))[i]? =some (Tag.fresh,atR g row ls i):=zy5 (zrd (by omega))
    rw [hr]
    have hbase:∀ d:Int,0≤d→d < g.d→d≠(parP g row).1→d≠(parP g row).2→(zjO g row ls g.width.toNat)[d.toNat]? =some (Tag.fresh,atR g row ls d):=by
      intro d d0 d1 n1 n2
      obtain ⟨c0,c1,c2⟩:=zoh h d0 d1 n1 n2
      rw [zwr h d0 d1 n1 n2 _ (by omega),if_pos (by omega)]
      unfold atR
      rw [if_neg n1,if_neg n2]
    unfold zy7
    by_cases e1:(i:Int)=(parP g row).1
    · have ha:atR g row ls i=p:=by rw [e1,at_p h,hp]
      rw [ha]
      split
      · rw [List.getElem?_set,if_pos (by omega),if_pos (by rw [zgm]; omega)]
      · rw [List.getElem?_set,if_neg (by omega),List.getElem?_set,if_pos (by omega),if_pos (by rw [zgm]; omega)]
    · by_cases e2:(i:Int)=(parP g row).2
      · have ha:atR g row ls i=sumQ 32 ls:=by rw [e2,at_q h]
        have h6:¬ (parP g row).2 < 0:=by omega
        rw [ha,if_neg h6,List.getElem?_set,if_pos (by omega),if_pos (by rw [List.length_set,zgm]; omega)]
        rcases hq with hq | hq
        · rw [hq]
        · rcases p2 with ⟨e,_⟩ | ⟨_,_,e⟩<;>omega
      · have:=hbase i (by omega) (by omega) e1 e2
        rw [Int.toNat_natCast] at this
        split
        · rw [List.getElem?_set,if_neg (by omega),this]
        · rw [List.getElem?_set,if_neg (by omega),List.getElem?_set,if_neg (by omega),this]
  · rw [List.getElem?_eq_none (by omega),List.getElem?_eq_none (by simp [zre]; omega)]
end
theorem zAB (t:Tag) (l:List Int):zal [.sl t (uL l)]=some (.bool (!decide (l.length=32))):=by
  rw [zl6,zcX]
  unfold zgc
  simp only [zfl]
  congr 2
  by_cases h:l.length=32
  · simp [h]
  · simp [h]; omega
theorem znk (tg:Tag) (ps:List Part) (hn:ps.length < 100000):
    ∃ r,zag [.sl tg (pL ps),.fn ID.row_sectors_1 [] []]=some r∧∃ i:Int,r=.int .i64 i∧decide (i≥0)= !(ps.all fun x=>decide (x.2.length=32)):=by
  rw [zde,zcZ]
  have hm:(ps.all fun x=>decide (x.2.length=32))=((ps.map fun x=>(zbU x.1 x.2,x.2)).all fun x=>decide (x.2.length=32)):=by rw [List.all_map]; rfl
  have hlen:(ps.map fun x=>(zbU x.1 x.2,x.2)).length=ps.length:=by simp
  rw [hm]
  rw [←hlen] at hn
  generalize (ps.map fun x=>(zbU x.1 x.2,x.2))=rs at*
  unfold zbS
  refine zv2 (fun a=>(rs.length:Nat) - a.1.2.2.1.toNat) (fun r=>∃ i:Int,r=D.int .i64 i∧decide (i≥0)= !(rs.all fun x=>decide (x.2.length=32)))
    (fun a=>∃ k:Nat,k≤rs.length∧((rs.take k).all fun x=>decide (x.2.length=32))=true∧a=((pL rs,(rs.length:Int),(k:Int),PUnit.unit),PUnit.unit)) ?_ ⟨0,by omega,by simp,by rw [zuh]; rfl⟩ (by simp; omega)
  rintro again _ ⟨k,hk,he,rfl⟩ hag
  dsimp only
  by_cases hkm:k < rs.length
  · obtain ⟨x,hx⟩:∃ x,rs[k]? =some x:=⟨_,List.getElem?_eq_getElem hkm⟩
    have hd:decide ((k:Int) < (rs.length:Int))=true:=by simp; omega
    rw [hd,za6,zae (by omega),zaq (by simpa using zdQ hx),zf0,zAB,zad,zcl]
    by_cases hf:x.2.length=32
    · simp only [hf,decide_true,Bool.not_true,zaw,zaZ]
      rw [zah (by omega) (by omega)]
      refine hag _ ⟨k+1,by omega,?_,rfl⟩ (by simp; omega)
      rw [List.take_add_one,hx,List.all_append,he]
      simp [hf]
    · simp only [hf,decide_false,Bool.not_false,za6]
      refine ⟨_,rfl,_,rfl,?_⟩
      have:(rs.all fun x=>decide (x.2.length=32))=false:=by
        rw [List.all_eq_false]
        exact ⟨x,List.mem_of_getElem? hx,by simp [hf]⟩
      rw [this]
      simp
  · have hd:decide ((k:Int) < (rs.length:Int))=false:=by simp; omega
    rw [hd,zaw]
    refine ⟨_,rfl,_,rfl,?_⟩
    rw [List.take_of_length_le (by omega)] at he
    rw [he]
    rfl
theorem row_sectors (tg:Tag) (ps:List Part) (hn:ps.length < 100000):zbZ [.sl tg (pL ps)]=some (.bool (ps.all fun x=>decide (x.2.length=32))):=by
  rw [zn5,zcZ]
  have hm:(ps.all fun x=>decide (x.2.length=32))=((ps.map fun x=>(zbU x.1 x.2,x.2)).all fun x=>decide (x.2.length=32)):=by rw [List.all_map]; rfl
  have hlen:(ps.map fun x=>(zbU x.1 x.2,x.2)).length=ps.length:=by simp
  rw [hm]
  rw [←hlen] at hn
  generalize (ps.map fun x=>(zbU x.1 x.2,x.2))=rs at*
  unfold zie
  have:zac [.sl .lent (pL rs),.fn ID.row_sectors_1 [] []]=some (.bool (!(rs.all fun x=>decide (x.2.length=32)))):=by
    rw [zcY,zcZ]
    have hm:(rs.all fun x=>decide (x.2.length=32))=((rs.map fun x=>(zbU x.1 x.2,x.2)).all fun x=>decide (x.2.length=32)):=by rw [List.all_map]; rfl
    have hlen:(rs.map fun x=>(zbU x.1 x.2,x.2)).length=rs.length:=by simp
    rw [hm]
    rw [←hlen] at hn
    generalize (rs.map fun x=>(zbU x.1 x.2,x.2))=qs at*
    unfold zbJ
    obtain ⟨r,h1,i,rfl,h2⟩:=znk .lent qs hn
    rw [h1,zad,zbp,h2]
  rw [this,zad,zcl,Bool.not_not]
theorem zAC (g:Geo) (row:Int) (tg:Tag) {ps:List Part} (hn:ps.length < 100000):
    zcG [.agg [.int .i64 g.l,.int .i64 g.d,.int .i64 g.c],.int .i64 row,.sl tg (pL ps)]=some (solD (zuZ g row (ps.map (·.2)))):=by
  rw [zsz,zcZ]
  have hlen:(ps.map fun x=>(zbU x.1 x.2,x.2)).length=ps.length:=by simp
  have hm:(ps.map fun x=>(zbU x.1 x.2,x.2)).map (·.2)=ps.map (·.2):=by rw [List.map_map]; rfl
  rw [←hlen] at hn
  rw [←hm]
  generalize (ps.map fun x=>(zbU x.1 x.2,x.2))=rs at*
  clear hm hlen ps
  unfold zm2 zuZ
  cases h:zcM g row
  · simp [zlp,h,solD]
  by_cases hl:(rs.length:Int)=g.width
  · have hall:((rs.map (·.2)).all fun x=>decide (x.length=32))=(rs.all fun x=>decide (x.2.length=32)):=by rw [List.all_map]; rfl
    rw [hall]
    cases hs:(rs.all fun x=>decide (x.2.length=32))
    · simp [zlp,h,solD,zj5,hl,row_sectors _ _ hn,hs]
    · have hl':∀ x∈rs,x.2.length=32:=fun x hx=>by rw [List.all_eq_true] at hs; simpa using hs x hx
      rw [if_pos ⟨rfl,by simp [hl],rfl⟩]
      obtain ⟨hk,r0,r1⟩:=zb2.1 h
      have hw:=zce hk
      have hdd:=ok_d hk
      have hb:((((pL rs).length:Nat):Int) != g.width)=false:=by simp [hl]
      have hrl:rs.length=g.width.toNat:=by omega
      rw [zlp,zad,zcl,h,Bool.not_true,zaw,zj5,zad,zbp,hb,zaw,row_sectors _ _ hn,zad,zcl,hs,Bool.not_true,zaw,zae (by omega),zae (by rfl),zae (by omega),zae (by omega),zae (by simp)]
      let st:Nat→(Int×List D×(Int×Int×Int×PUnit)×List D×List D×Int×Int×PUnit)×PUnit:=fun k=>((row,pL rs,(g.l,g.d,g.c,PUnit.unit),pL (zjO g row (rs.map (·.2)) k),pL rs,((pL rs).length:Int),(k:Int),PUnit.unit),PUnit.unit)
      have hst:st 0=((row,pL rs,(g.l,g.d,g.c,PUnit.unit),List.replicate g.d.toNat (D.sl .nil []),pL rs,((pL rs).length:Int),0,PUnit.unit),PUnit.unit):=by
        simp only [st,zjO,zAA]; rfl
      rw [←hst]
      refine zdV st rs.length (by omega) ?_ ?_
      · intro again k hk'
        dsimp only [st]
        obtain ⟨x,hx⟩:∃ x,rs[k]? =some x:=⟨_,List.getElem?_eq_getElem hk'⟩
        have hxs:=hl' x (List.mem_of_getElem? hx)
        have hxe:rs[k]=x:=by rw [List.getElem?_eq_getElem hk'] at hx; exact Option.some.inj hx
        have hdi:=zsd h (k:=(k:Int)) (by omega) (by omega)
        have hfl:=zgm g row (rs.map (·.2)) k
        obtain ⟨y,hy⟩:∃ y,(zjO g row (rs.map (·.2)) k)[(zeF g row (k:Int)).toNat]? =some y:=⟨_,List.getElem?_eq_getElem (by omega)⟩
        have hgd:(rs.map (·.2)).getD k []=x.2:=by simp [List.getD_eq_getElem?_getD,hx]
        have hgx:(pL rs)[k]? =some (.sl x.1 (uL x.2)):=zdQ hx
        have hlt:(zeF g row (k:Int)).toNat < g.d.toNat:=by omega
        simp (disch:=first | omega | assumption | (simp; done) | fail) [-List.all_eq_true,hk',zaq hgx,zpS,zpP (show x.2.length≤4294967296 by omega),hdi.1,hfl,hlt,zaq (zdQ hy),zoj,zah,zui,zjO]
        rw [hxe]
      · intro again
        dsimp only [st]
        obtain ⟨p0,p1,p2⟩:=zuX h
        have hfl:=zgm g row (rs.map (·.2)) rs.length
        obtain ⟨y,hy⟩:∃ y,(zjO g row (rs.map (·.2)) rs.length)[(parP g row).1.toNat]? =some y:=⟨_,List.getElem?_eq_getElem (by omega)⟩
        have hrp:=zy0 (n:=32) .lent (ps:=rs) (by omega) (by omega) (by omega) hl'
        have hrq:=zy1 (n:=32) .lent (ps:=rs) (by omega) (by omega) (by omega) hl'
        have hff:=zxg h (rs.map (·.2)) (sumP 32 (rs.map (·.2))) (sumQ 32 (rs.map (·.2))) rfl (.inl rfl)
        have hfree:=zwq (zxf g row (rs.map (·.2)) rs.length) (parP g row).1.toNat (sumP 32 (rs.map (·.2)))
        have hfree2:=zwq hfree (parP g row).2.toNat (sumQ 32 (rs.map (·.2)))
        have hlt:(parP g row).1.toNat < g.d.toNat:=by omega
        unfold zy7 at hff
        rw [←hrl] at hff
        rcases p2 with ⟨p2,_⟩ | ⟨q0,q1,_⟩
        · rw [if_pos (by omega)] at hff
          have hq:¬ (0≤(parP g row).2):=by omega
          simp (disch:=first | omega | assumption | (simp; done) | fail) [-List.all_eq_true,zj4,hrp,p0,hfl,hlt,zaq (zdQ hy),zoj,hq,zui,zpQ hfree,solD,hff,zgl]
        · rw [if_neg (by omega)] at hff
          have hlt2:(parP g row).2.toNat < g.d.toNat:=by omega
          obtain ⟨z,hz⟩:∃ z,((zjO g row (rs.map (·.2)) rs.length).set (parP g row).1.toNat (Tag.fresh,sumP 32 (rs.map (·.2))))[(parP g row).2.toNat]? =some z:=⟨_,List.getElem?_eq_getElem (by simp [hfl]; omega)⟩
          simp (disch:=first | omega | assumption | (simp; done) | fail) [-List.all_eq_true,zj4,hrp,hrq,p0,q0,hfl,hlt,hlt2,zaq (zdQ hy),zaq (zdQ hz),zoj,zui,zpQ hfree,zpQ hfree2,solD,hff,zgl]
  · have h2:¬ (true=true∧(((rs.map (·.2)).length:Nat):Int)=g.width∧((rs.map (·.2)).all fun x=>decide (x.length=32))=true):=by rintro ⟨_,e,_⟩; simp at e; exact hl e
    rw [if_neg h2]
    simp [zlp,h,solD,zj5,hl]
end Wf

namespace Wf
open Go Go.RowKit Go.Proofs
set_option linter.unusedSimpArgs false
set_option linter.unusedVariables false
set_option maxHeartbeats 4000000
def zeT (g:Geo) (row:Int) (rs:List Part) (k:Nat):List Part:=(List.range k).map fun (j:Nat)=>rs.getD (zeF g row (j:Int)).toNat (.nil,[])
theorem zul (g:Geo) (row:Int) (rs:List Part):(zeT g row rs g.width.toNat).map (·.2)=zmK g row (rs.map (·.2)):=by
  unfold zeT zmK
  rw [List.map_map]
  apply List.map_congr_left
  intro j _
  simp [List.getD_eq_getElem?_getD]
  cases rs[(zeF g row (j:Int)).toNat]? <;>rfl
theorem zsK (g:Geo) (row:Int) (rs:List Part) {k:Nat} {x:Part} (h:rs[(zeF g row (k:Int)).toNat]? =some x):zeT g row rs (k+1)=zeT g row rs k++[x]:=by
  unfold zeT
  rw [List.range_succ,List.map_append]
  simp [List.getD_eq_getElem?_getD,h]
theorem zpU {R:Type} (a b:D) (f:LfT [.any,.any]→Option R):zas [.any,.any] [a,b] f=f (a,b,()):=by rw [zeZ,zeZ,zeY]
theorem zAD (g:Geo) (row:Int) (tg:Tag) {ps:List Part} (hn:ps.length < 100000):
    zcF [.agg [.int .i64 g.l,.int .i64 g.d,.int .i64 g.c],.int .i64 row,.sl tg (pL ps)]=some (solD (zuY g row (ps.map (·.2)))):=by
  rw [zsv,zcZ]
  have hm:(ps.map fun x=>(zbU x.1 x.2,x.2)).map (·.2)=ps.map (·.2):=by rw [List.map_map]; rfl
  have hlen:(ps.map fun x=>(zbU x.1 x.2,x.2)).length=ps.length:=by simp
  rw [←hm]
  rw [←hlen] at hn
  generalize (ps.map fun x=>(zbU x.1 x.2,x.2))=rs at*
  clear hm hlen ps
  unfold zmZ zuY
  cases h:zcM g row
  · simp [zlp,h,solD]
  by_cases hl:(rs.length:Int)=g.d
  · rw [if_pos ⟨rfl,by simp [hl]⟩]
    have hk:=(zb2.1 h).1
    have hw:=zce hk
    have hdd:=ok_d hk
    have hb:((((pL rs).length:Nat):Int) != g.d)=false:=by simp [hl]
    rw [zlp,zad,zcl,h,Bool.not_true,zaw,hb,zaw,zj5,zad,zbp]
    let st:Nat→(Int×List D×(Int×Int×Int×PUnit)×List D×Int×Int×PUnit)×PUnit:=fun k=>((row,pL rs,(g.l,g.d,g.c,PUnit.unit),pL (zeT g row rs k),g.width,(k:Int),PUnit.unit),PUnit.unit)
    have hst:st 0=((row,pL rs,(g.l,g.d,g.c,PUnit.unit),[],g.width,0,PUnit.unit),PUnit.unit):=rfl
    rw [←hst]
    refine zdV st g.width.toNat (by omega) ?_ ?_
    · intro again k hk'
      dsimp only [st]
      have hd:(k:Int) < g.width:=by omega
      have hdi:=zsd h (k:=(k:Int)) (by omega) (by omega)
      obtain ⟨x,hx⟩:∃ x,rs[(zeF g row (k:Int)).toNat]? =some x:=⟨_,List.getElem?_eq_getElem (by omega)⟩
      have hpl:(zeT g row rs k).length=k:=by simp [zeT]
      simp (disch:=first | omega | assumption | (simp; done) | fail) [-List.all_eq_true,hd,zpS,hdi.1,zaq (zdQ hx),hpl,zah,zyZ,zsK g row rs hx]
    · intro again
      dsimp only [st]
      have hd:¬ ((g.width.toNat:Nat):Int) < g.width:=by omega
      obtain ⟨p0,p1,p2⟩:=zuX h
      obtain ⟨xp,hxp⟩:∃ x,rs[(parP g row).1.toNat]? =some x:=⟨_,List.getElem?_eq_getElem (by omega)⟩
      have hpo:pOf g row (rs.map (·.2))=xp.2:=by unfold pOf; simp [List.getD_eq_getElem?_getD,hxp]
      have hrl:(zeT g row rs g.width.toNat).length < 100000:=by simp [zeT]; omega
      have hsol:=fun tq q=>zAy xp.1 tq .lent xp.2 q hrl
      rw [zul] at hsol
      rw [hpo]
      rcases p2 with ⟨p2,_⟩ | ⟨q0,q1,_⟩
      · have hqo:qOf g row (rs.map (·.2))=[]:=by unfold qOf; rw [if_pos (by omega)]
        have hq:(parP g row).2 < 0:=by omega
        have hs:=hsol .nil []
        rw [show uL []=([]:List D) from rfl] at hs
        rw [hqo]
        simp (disch:=first | omega | assumption | (simp; done) | fail) [-List.all_eq_true,znj,hd,zj4,hq,p0,zaq (zdQ hxp),hs]
        cases zpe xp.2 [] (zmK g row (rs.map (·.2)))<;>simp [-List.all_eq_true,solD,zgl]
      · obtain ⟨xq,hxq⟩:∃ x,rs[(parP g row).2.toNat]? =some x:=⟨_,List.getElem?_eq_getElem (by omega)⟩
        have hqo:qOf g row (rs.map (·.2))=xq.2:=by unfold qOf; rw [if_neg (by omega)]; simp [List.getD_eq_getElem?_getD,hxq]
        have hq:¬ (parP g row).2 < 0:=by omega
        rw [hqo]
        simp (disch:=first | omega | assumption | (simp; done) | fail) [-List.all_eq_true,znj,hd,zj4,hq,p0,q0,zaq (zdQ hxp),zaq (zdQ hxq),hsol]
        cases zpe xp.2 xq.2 (zmK g row (rs.map (·.2)))<;>simp [-List.all_eq_true,solD,zgl]
  · have h2:¬ (true=true∧(((rs.map (·.2)).length:Nat):Int)=g.d):=by rintro ⟨_,e⟩; simp at e; exact hl e
    rw [if_neg h2]
    simp [zlp,h,solD,hl]
end Wf

namespace Wf
open Go Go.RowKit Go.Proofs
set_option linter.unusedSimpArgs false
set_option linter.unusedVariables false
set_option maxHeartbeats 4000000
theorem zfM (live:List Bool):D.lentL (live.map D.bool)=live.map D.bool:=by
  induction live with
  | nil=>rfl
  | cons x l ih=>simp [ih]
theorem zmt (acts:Nat→List Act):∀ (n k:Nat) (B:Ben),runE (fun k B=>runA (acts k) B) k n B=runA ((List.range' k n).flatMap acts) B
  | 0,k,B=>rfl
  | n+1,k,B=>by
    rw [List.range'_succ,List.flatMap_cons,zkT]
    show (if (runA (acts k) B).1=0 then _ else _)=_
    rw [zmt acts n (k+1)]
theorem zok (a:Act) (B:Ben):runA [a] B=B.act a:=by
  rw [zjg]
  by_cases h:(B.act a).1=0
  · rw [if_pos h]
    show (0,(B.act a).2)=B.act a
    rw [←h]
  · rw [if_neg h]
section
variable {B:Ben} {d a e:Int} {x:List Int}
theorem zpV {s:DS} (hd:B.is d=true) (hf:s.failed=(B.dk d).failed):(B.setD d s).failed e=B.failed e:=by
  unfold Ben.failed
  rw [zuV]
  cases he:B.is e
  · rfl
  · rw [zhY hd (zgD.1 he).1]
    split
    · rename_i q; subst q; rw [hf]
    · rfl
theorem zrp (B:Ben) (d a:Int) (x:List Int):(B.write d a x).2.n=B.n∧∀ e,(B.write d a x).2.failed e=B.failed e:=by
  unfold Ben.write
  split
  · exact ⟨rfl,fun _=>rfl⟩
  · rename_i h0
    have hd:=(may0.1 (Classical.not_not.1 h0)).1
    split
    · exact ⟨rfl,fun _=>rfl⟩
    · split
      · exact ⟨rfl,fun _=>rfl⟩
      · exact ⟨by simp,fun e=>zpV (B:=(B.junk _).less) hd rfl⟩
theorem zrq (hB:B.Ok) (d:Int):(B.flush d).2.n=B.n∧∀ e,(B.flush d).2.failed e=B.failed e:=by
  unfold Ben.flush
  split
  · exact ⟨rfl,fun _=>rfl⟩
  · rename_i h0
    have hd:=(may0.1 (Classical.not_not.1 h0)).1
    refine ⟨by simp,fun e=>zpV hd ?_⟩
    unfold DS.flush
    split
    · rfl
    · exact zkv (zp1 hB d).1
def Like (B B':Ben):Prop:=B'.n=B.n∧∀ e,B'.failed e=B.failed e
theorem Like.refl (B:Ben):Like B B:=⟨rfl,fun _=>rfl⟩
theorem Like.trans {A B C:Ben} (h1:Like A B) (h2:Like B C):Like A C:=⟨h2.1.trans h1.1,fun e=>(h2.2 e).trans (h1.2 e)⟩
theorem Like.up {B B':Ben} (h:Like B B') (live:List Bool) (e:Int):B'.up live e=B.up live e:=by unfold Ben.up; rw [h.1,h.2]
theorem zDE {B:Ben} {live:List Bool} {d:Int} (h:B.up live d=true):d < B.n:=by
  unfold Ben.up at h
  simp only [Bool.and_eq_true,decide_eq_true_eq] at h
  exact h.1
end
section
variable {T0 T1:Tb} {b:Nat} {idx:List Nat} {B:Ben}
theorem znK (h:At T0 T1 b idx B) (hw:B.w≤999000) (tg:Tag) (live:List Bool) (g:Geo) (r:Int) (tg2:Tag) {ps:List Part} (hn:ps.length < 100000) (hs:∀ x∈ps,Sec x.2):
    zbE [.h kB b 0,.sl tg (live.map D.bool),.agg [.int .i64 g.l,.int .i64 g.d,.int .i64 g.c],.int .i64 r,.sl tg2 (pL ps)] [P0 T0 b idx B,P1 T1 idx B]=
      some (Ans.mk (.int .i64 (B.sWrite live g r (ps.map (·.2))).1) [] [P0 T0 b idx (B.sWrite live g r (ps.map (·.2))).2,P1 T1 idx (B.sWrite live g r (ps.map (·.2))).2]):=by
  rw [znd,zfM,zcZ]
  have hlen:(ps.map fun x=>(zbU x.1 x.2,x.2)).length=ps.length:=by simp
  have hm:(ps.map fun x=>(zbU x.1 x.2,x.2)).map (·.2)=ps.map (·.2):=by rw [List.map_map]; rfl
  have hs':∀ x∈(ps.map fun x=>(zbU x.1 x.2,x.2)),Sec x.2:=by intro x hx; obtain ⟨y,hy,rfl⟩:=List.mem_map.1 hx; exact hs y hy
  rw [←hlen] at hn
  rw [←hm]
  generalize (ps.map fun x=>(zbU x.1 x.2,x.2))=rs at*
  clear hm hlen hs ps
  unfold zg3 Ben.sWrite
  have hfill:=zAC g r .lent hn
  cases hf:zuZ g r (rs.map (·.2)) with
  | none=>
    rw [hf] at hfill
    simp [hfill,solD]
  | some o=>
    have hf0:=hf
    unfold zuZ at hf0
    split at hf0
    rotate_left
    · cases hf0
    rename_i hc
    obtain ⟨hr,hlw,hall⟩:=hc
    cases hf0
    have hR:Row g (rs.map (·.2)):=⟨hlw,by intro x hx; obtain ⟨y,hy,rfl⟩:=List.mem_map.1 hx; exact hs' y hy⟩
    generalize rs.map (·.2)=data at*
    rw [hf] at hfill
    obtain ⟨hk,r0,r1⟩:=zb2.1 hr
    have hdd:=ok_d hk
    rw [if_neg (by simp)]
    have hrl:=zre g r data
    let acts:Nat→List Act:=fun d=>if B.up live d then [.w d (36+r) (atR g r data d)] else []
    have hacts:B.wActs live g r data=(List.range' 0 g.d.toNat).flatMap acts:=by unfold Ben.wActs; rw [List.range_eq_range']
    rw [hacts,←zmt]
    let st:Nat→Ben→(Nat×List D×Int×List D×Int×Int×PUnit)×List (List D)×List (List D)×PUnit:=fun k B'=>((b,live.map D.bool,r,pL (fP (zji g r data)),(g.d.toNat:Int),(k:Int),PUnit.unit),P0 T0 b idx B',P1 T1 idx B',PUnit.unit)
    have hst:st 0 B=((b,live.map D.bool,r,pL (fP (zji g r data)),(g.d.toNat:Int),0,PUnit.unit),P0 T0 b idx B,P1 T1 idx B,PUnit.unit):=rfl
    simp (disch:=first | omega | assumption | (simp; done) | fail) only [hfill,solD,zad,zdN,zpU,zbH,zcl,Bool.not_true,zaw,zae,Nat.zero_add,Nat.le_refl,zuh,zDA,hrl]
    rw [←hst]
    refine zlT (fun k B'=>runA (acts k) B') (fun k B'=>Nx k B B'∧Like B B') st (fun y=>some (Ans.mk (.int .i64 y.1) [] [P0 T0 b idx y.2,P1 T1 idx y.2])) g.d.toNat (by omega) ⟨.rfl' h.ok (by omega),.refl B⟩ ?_ ?_ ?_
    · rintro k B' hk' ⟨hx,hL⟩ he
      dsimp only [acts] at he ⊢
      have hsec:=zyP hr hR (d:=(k:Int)) (by omega) (by omega)
      cases hu:B.up live (k:Int)
      · exact ⟨hx.mono (by omega),hL⟩
      · rw [if_pos rfl,zok]
        exact ⟨(hx.trans (zv9 hx.ok (.inl hsec))).mono (by omega),hL.trans (zrp ..)⟩
    · rintro again k B' hk' ⟨hx,hL⟩
      dsimp only [st]
      have hA:=h.nx hx
      have hxw:=hx.w
      have hw':B'.w≤1000000:=by omega
      have hg:(pL (fP (zji g r data)))[k]? =some (.sl .fresh (uL (atR g r data k))):=zdQ (zy5 (zrd (by omega)))
      have hup:=zAt hA .lent live (d:=(k:Int)) (by omega)
      rw [hL.up] at hup
      by_cases hu:B.up live (k:Int)=true
      rotate_left
      · have hu':B.up live (k:Int)=false:=by simpa using hu
        rw [hu'] at hup
        rw [show acts k=[] from if_neg hu]
        simp (disch:=first | omega | assumption | (simp; done) | fail) [hk',hrl,zaq hg,hup,zah,runA]
      · rw [hu] at hup
        rw [show acts k=[.w k (36+r) (atR g r data k)] from if_pos hu,zok]
        have hwr:=zCi hA hw' (k:Int) (36+r) .fresh (atR g r data k)
        by_cases he:(B'.write k (36+r) (atR g r data k)).1=0
        · simp (disch:=first | omega | assumption | (simp; done) | fail) [hk',hrl,zaq hg,hup,zah,hwr,he,Ben.act]
        · simp (disch:=first | omega | assumption | (simp; done) | fail) [hk',hrl,zaq hg,hup,zah,hwr,he,Ben.act]
    · rintro again B' ⟨hx,hL⟩
      dsimp only [st]
      simp
theorem znL (h:At T0 T1 b idx B) (hw:B.w≤999000) (tg:Tag) (live:List Bool):
    zbF [.h kB b 0,.sl tg (live.map D.bool)] [P0 T0 b idx B,P1 T1 idx B]=some (Ans.mk (.int .i64 (B.sFlush live).1) [] [P1 T1 idx (B.sFlush live).2]):=by
  rw [znf,zfM]
  unfold zg4 Ben.sFlush
  let acts:Nat→List Act:=fun d=>if B.up live d then [.f d] else []
  have hacts:B.fActs live=(List.range' 0 B.ds.length).flatMap acts:=by unfold Ben.fActs; rw [List.range_eq_range']
  have hsm:=h.ok.small
  rw [hacts,←zmt]
  let st:Nat→Ben→(Nat×List D×Int×Int×PUnit)×List (List D)×List (List D)×PUnit:=fun k B'=>((b,live.map D.bool,(B.ds.length:Int),(k:Int),PUnit.unit),P0 T0 b idx B,P1 T1 idx B',PUnit.unit)
  have hst:st 0 B=((b,live.map D.bool,(B.ds.length:Int),0,PUnit.unit),P0 T0 b idx B,P1 T1 idx B,PUnit.unit):=rfl
  have hl:=zyW h
  unfold Ben.n at hl
  simp (disch:=first | omega | assumption | (simp; done) | fail) only [hl,zad,zcy,zbp]
  rw [←hst]
  refine zlT (fun k B'=>runA (acts k) B') (fun k B'=>Nx 0 B B'∧Like B B'∧P0 T0 b idx B'=P0 T0 b idx B) st (fun y=>some (Ans.mk (.int .i64 y.1) [] [P1 T1 idx y.2])) B.ds.length (by omega) ⟨.rfl' h.ok (by omega),.refl B,rfl⟩ ?_ ?_ ?_
  · rintro k B' hk' ⟨hx,hL,h0⟩ he
    dsimp only [acts] at he ⊢
    cases hu:B.up live (k:Int)
    · exact ⟨hx,hL,h0⟩
    · rw [if_pos rfl,zok]
      refine ⟨(hx.trans (zwa hx.ok)).mono (by omega),hL.trans (zrq hx.ok _),?_⟩
      show P0 T0 b idx (B'.flush k).2=_
      rw [←h0]
      unfold Ben.flush
      split<;>rfl
  · rintro again k B' hk' ⟨hx,hL,h0⟩
    dsimp only [st]
    have hA:=h.nx hx
    have hxw:=hx.w
    have hw':B'.w≤1000000:=by omega
    have hup:=zAt hA .lent live (d:=(k:Int)) (by omega)
    rw [hL.up,h0] at hup
    by_cases hu:B.up live (k:Int)=true
    rotate_left
    · have hu':B.up live (k:Int)=false:=by simpa using hu
      rw [hu'] at hup
      rw [show acts k=[] from if_neg hu]
      simp (disch:=first | omega | assumption | (simp; done) | fail) [hk',hup,zah,runA]
    · rw [hu] at hup
      rw [show acts k=[.f k] from if_pos hu,zok]
      have hfl:=zCj hA hw' (k:Int)
      rw [h0] at hfl
      by_cases he:(B'.flush k).1=0
      · simp (disch:=first | omega | assumption | (simp; done) | fail) [hk',hup,zah,hfl,he,Ben.act]
      · simp (disch:=first | omega | assumption | (simp; done) | fail) [hk',hup,zah,hfl,he,Ben.act]
  · rintro again B' ⟨hx,hL,h0⟩
    dsimp only [st]
    simp
end
end Wf

namespace Wf
open Go Go.RowKit Go.Proofs
set_option linter.unusedSimpArgs false
set_option linter.unusedVariables false
set_option maxHeartbeats 4000000
theorem zA9 (l:List Int):(D.sl .fresh (uL l)).free=true:=by simp only [D.free,zof]
theorem zy8 {p q:List Int} {ls o:List (List Int)} (h:zpe p q ls=some o):o.length=ls.length:=by
  unfold zpe at h
  split at h
  · cases h
  split at h
  · cases h
  split at h
  · cases h; simp [zjf]
  · split at h
    · cases h; simp [zjf]
    · cases h; simp [zjf]
  · cases h; simp [zjf]
theorem zAE {g:Geo} {r:Int} {ls o:List (List Int)} (h:zuY g r ls=some o):o.length=g.width.toNat:=by
  unfold zuY at h
  split at h
  · rw [zy8 h]; simp [zmK]
  · cases h
theorem zCn {g:Geo} {r j k:Int} (h:zcM g r=true) (j0:0≤j) (j1:j < g.width) (k0:0≤k) (k1:k < g.width) (e:numP g r j=numP g r k):j=k:=by
  have h1:=zA3 h j0 j1
  have h2:=zA3 h k0 k1
  rw [e,h2] at h1
  injection h1 with h1 _
  exact ztU h j0 j1 k0 k1 h1.symm
theorem zy9 {g:Geo} {n:Int} (n0:0≤n) (n1:n < g.cap):numP g (rowG g n) (ze0 g n)=n:=by
  have hk:=zwg n0 n1
  have hw:=zce hk
  have hc:=(zd8.1 hk).2.2
  rw [zyK] at n1
  unfold numP rowG ze0
  generalize g.c=c at*
  generalize g.width=w at*
  have hw:w=2∨w=3∨w=4∨w=5∨w=6∨w=7:=by omega
  rcases hc with rfl | rfl | rfl<;>rcases hw with rfl | rfl | rfl | rfl | rfl | rfl<;>omega
section
variable {T0 T1:Tb} {b:Nat} {idx:List Nat} {B:Ben}
theorem zCo {live:List Bool} {d a:Int} (hdn:B.down=false) (d0:0≤d) (hu:B.up live d=true) (a0:0≤a) (a1:a < 52):B.read d a=(B.cur d a,0):=by
  obtain ⟨h1,h2,_⟩:=zAd d0 hu
  rw [zlU h1] at h2
  unfold Ben.read
  rw [if_neg (by rw [may0.2 ⟨h1,hdn⟩]; simp)]
  unfold DS.read
  rw [if_neg (by rw [zr7.2 ⟨h2,a0,a1⟩]; simp)]
  rfl
theorem zza {live:List Bool} {d:Int} (a:Int) (hdn:B.down=true) (d0:0≤d) (hu:B.up live d=true):B.read d a=([],6):=by
  obtain ⟨h1,h2,_⟩:=zAd d0 hu
  have hm:B.may d=6:=by unfold Ben.may; rw [h1,hdn]; rfl
  unfold Ben.read
  rw [hm]; simp
def Ben.secP (B:Ben) (live:List Bool) (r:Int) (n k:Nat):List Part:=(List.range n).map fun (d:Nat)=>if d < k then (if B.up live d then (Tag.fresh,B.cur d (36+r)) else (Tag.nil,[])) else (Tag.nil,[])
theorem zAF (live:List Bool) (r:Int) (n:Nat):(B.secP live r n n).map (·.2)=B.secs live r n:=by
  unfold Ben.secP Ben.secs
  rw [List.map_map]
  apply List.map_congr_left
  intro d hd
  have:=List.mem_range.1 hd
  simp only [Function.comp_apply,if_pos this]
  split<;>rfl
@[simp] theorem zsL (live:List Bool) (r:Int) (n k:Nat):(B.secP live r n k).length=n:=by simp [Ben.secP]
theorem zzb (live:List Bool) (r:Int) {n k:Nat} (hk:k < n) (hu:B.up live k=true):(B.secP live r n k).set k (Tag.fresh,B.cur k (36+r))=B.secP live r n (k+1):=by
  apply List.ext_getElem?
  intro j
  rw [List.getElem?_set]
  unfold Ben.secP
  by_cases hj:j < n
  · by_cases hjk:k=j
    · subst hjk; simp [hj,hu]
    · rw [if_neg hjk]
      simp only [List.getElem?_map,List.getElem?_range hj,Option.map_some]
      by_cases h1:j < k
      · simp only [if_pos h1,if_pos (show j < k+1 by omega)]
      · simp only [if_neg h1,if_neg (show ¬ j < k+1 by omega)]
  · have h1:k≠j:=by omega
    rw [if_neg h1,List.getElem?_eq_none (by simp; omega),List.getElem?_eq_none (by simp; omega)]
theorem zzc (live:List Bool) (r:Int) {n k:Nat} (hk:k < n) (hu:B.up live k=false):B.secP live r n k=B.secP live r n (k+1):=by
  unfold Ben.secP
  apply List.map_congr_left
  intro j hj
  by_cases h1:j < k
  · simp only [if_pos h1,if_pos (show j < k+1 by omega)]
  · by_cases hjk:j=k
    · subst hjk; simp [hu]
    · simp only [if_neg h1,if_neg (show ¬ j < k+1 by omega)]
theorem zzd (live:List Bool) (r:Int) (n:Nat):pL (B.secP live r n 0)=List.replicate n (D.sl .nil []):=by
  unfold Ben.secP pL
  rw [List.map_map]
  apply List.ext_getElem?
  intro j
  by_cases hj:j < n
  · simp [hj,uL]
  · rw [List.getElem?_eq_none (by simp; omega),List.getElem?_eq_none (by simp; omega)]
theorem zCp (live:List Bool) (r:Int) {n k:Nat} (hk:k < n):(B.secP live r n k)[k]? =some (Tag.nil,[]):=by unfold Ben.secP; simp [hk]
theorem zvj (h:At T0 T1 b idx B) (hw:B.w≤1000000) (tg:Tag) (live:List Bool) (g:Geo) (r:Int):
    zbY [.h kB b 0,.sl tg (live.map D.bool),.agg [.int .i64 g.l,.int .i64 g.d,.int .i64 g.c],.int .i64 r] [P0 T0 b idx B,P1 T1 idx B]=
      some (Ans.mk (.tup [.sl .own (pL (fP (B.sRead live g r).1)),.int .i64 (B.sRead live g r).2]) [] []):=by
  rw [zn3,zfM]
  unfold zid Ben.sRead
  have hck:zai [.agg [.int .i64 g.l,.int .i64 g.d,.int .i64 g.c]]=some (.int .i64 (if g.ok then 0 else 1)):=zeQ g.l g.d g.c
  cases hk:g.ok
  · have hf:zcM g r=false:=by unfold zcM; rw [hk]; rfl
    rw [hk] at hck
    simp [hck,hf]; rfl
  rw [hk] at hck
  by_cases r0:r < 0
  · have hf:zcM g r=false:=by unfold zcM; rw [hk]; simp; omega
    simp [hck,hf,r0]; rfl
  by_cases r1:r≥16
  · have hf:zcM g r=false:=by unfold zcM; rw [hk]; simp; omega
    simp [hck,hf,r0,show 16≤r by omega]; rfl
  have hr:zcM g r=true:=zb2.2 ⟨hk,by omega,by omega⟩
  have hdd:=ok_d hk
  rw [if_neg (by simp [hr])]
  have r1':¬ 16≤r:=by omega
  simp (disch:=first | omega | assumption | (simp; done) | fail) only [hck,if_true,zad,zbp,zlR,zB1,zae,List.length_replicate,Nat.zero_add,Nat.le_refl]
  let st:Nat→(Nat×List D×Int×(Int×Int×Int×PUnit)×List D×Int×Int×PUnit)×List (List D)×List (List D)×PUnit:=fun k=>
    ((b,live.map D.bool,r,(g.l,g.d,g.c,PUnit.unit),pL (B.secP live r g.d.toNat k),((g.d.toNat:Nat):Int),(k:Int),PUnit.unit),P0 T0 b idx B,P1 T1 idx B,PUnit.unit)
  have hst:st 0=((b,live.map D.bool,r,(g.l,g.d,g.c,PUnit.unit),List.replicate g.d.toNat (D.sl .nil []),((g.d.toNat:Nat):Int),0,PUnit.unit),P0 T0 b idx B,P1 T1 idx B,PUnit.unit):=by
    simp only [st,zzd]; rfl
  rw [←hst]
  refine zfK (fun x=>g.d.toNat - x.1.2.2.2.2.2.2.1.toNat) (fun _=>_) (fun x=>∃ k:Nat,k≤g.d.toNat∧(B.down=true→∀ j:Nat,j < k→B.up live j=false)∧x=st k) ?_ ⟨0,by omega,fun _ j hj=>by omega,rfl⟩ (by simp [st]; omega)
  rintro again _ ⟨k,hk',hdn,rfl⟩ hag
  dsimp only [st]
  by_cases hlt:k < g.d.toNat
  · have hup:=zAt h .lent live (d:=(k:Int)) (by omega)
    by_cases hu:B.up live (k:Int)=true
    · rw [hu] at hup
      cases hdo:B.down
      · have hrd:=zyX h hw (k:Int) (36+r)
        rw [zCo hdo (by omega) hu (by omega) (by omega)] at hrd
        have hg:=zCp (B:=B) live r hlt
        have:=hag (st (k+1)) ⟨k+1,by omega,fun e=>(by rw [hdo] at e; cases e),rfl⟩ (by simp [st]; omega)
        dsimp only [st] at this
        rw [←zzb live r hlt hu] at this
        simp (disch:=first | omega | assumption | (simp; done) | fail) [hlt,hup,hrd,zah,zsL,zaq (zdQ hg),zoj,zui]
        rw [show ((k+1:Nat):Int)=(k:Int)+1 by omega] at this
        simpa [hdo] using this
      · have hrd:=zyX h hw (k:Int) (36+r)
        rw [zza (36+r) hdo (by omega) hu] at hrd
        have hany:(List.range g.d.toNat).any (fun (d:Nat)=>B.up live d)=true:=by
          rw [List.any_eq_true]; exact ⟨k,List.mem_range.2 hlt,hu⟩
        rw [hany]
        simp (disch:=first | omega | assumption | (simp; done) | fail) [hlt,hup,hrd,zah]
        rfl
    · have hu':B.up live (k:Int)=false:=by simpa using hu
      rw [hu'] at hup
      have:=hag (st (k+1)) ⟨k+1,by omega,fun e j hj=>by
        by_cases ej:j=k
        · subst ej; exact hu'
        · exact hdn e j (by omega),rfl⟩ (by simp [st]; omega)
      dsimp only [st] at this
      rw [←zzc live r hlt hu'] at this
      rw [show ((k+1:Nat):Int)=(k:Int)+1 by omega] at this
      simp (disch:=first | omega | assumption | (simp; done) | fail) [hlt,hup,zah]
      simpa using this
  · have hke:k=g.d.toNat:=by omega
    have hno:¬ (B.down=true∧(List.range g.d.toNat).any (fun (d:Nat)=>B.up live d)=true):=by
      rintro ⟨e1,e2⟩
      rw [List.any_eq_true] at e2
      obtain ⟨j,hj,hu⟩:=e2
      rw [hdn e1 j (by rw [hke]; exact List.mem_range.1 hj)] at hu; cases hu
    rw [if_neg hno]
    have htk:=zAD g r .lent (ps:=B.secP live r g.d.toNat g.d.toNat) (by rw [zsL]; omega)
    rw [zAF] at htk
    subst hke
    simp (disch:=first | omega | assumption | (simp; done) | fail) [-List.all_eq_true,znj,zsL,htk]
    cases zuY g r (B.secs live r g.d.toNat) with
    | none=>simp [-List.all_eq_true,solD]; rfl
    | some o=>simp [-List.all_eq_true,solD,zgl]
def Ben.oneT (B:Ben) (live:List Bool) (g:Geo) (n:Int):Tag:=
  if (ofP g n).2.2=false then .nil
  else if B.up live (ofP g n).1 then .fresh
  else if (B.sRead live g (ofP g n).2.1).2≠0 then .nil
  else .fresh
theorem zxh (h:At T0 T1 b idx B) (hw:B.w≤1000000) (tg:Tag) (live:List Bool) (g:Geo) (n:Int):
    zb9 [.h kB b 0,.sl tg (live.map D.bool),.agg [.int .i64 g.l,.int .i64 g.d,.int .i64 g.c],.int .i64 n] [P0 T0 b idx B,P1 T1 idx B]=
      some (Ans.mk (.tup [.sl (B.oneT live g n) (uL (B.sOne live g n).1),.int .i64 (B.sOne live g n).2]) [] []):=by
  rw [zpJ,zfM]
  unfold zjM Ben.sOne Ben.oneT
  have hof:=zy6 g n
  by_cases hc:0≤n∧n < g.cap
  · have ho:ofP g n=(zeF g (rowG g n) (ze0 g n),rowG g n,true):=by unfold ofP; rw [if_pos hc]
    have hk:=zwg hc.1 hc.2
    have hrf:=zwh hc.1 hc.2
    have hr:zcM g (rowG g n)=true:=zb2.2 ⟨hk,hrf.1,hrf.2.1⟩
    have hcol:0≤ze0 g n∧ze0 g n < g.width:=zEi hk (n / g.c)
    have hdi:=zsd hr hcol.1 hcol.2
    have hw2:=zce hk
    rw [ho] at hof ⊢
    have hup:=zAt h .lent live (d:=zeF g (rowG g n) (ze0 g n)) hdi.1
    have hrd:=zyX h hw (zeF g (rowG g n) (ze0 g n)) (36+rowG g n)
    have hsr:=zvj h hw .lent live g (rowG g n)
    dsimp only at hof ⊢
    by_cases hu:B.up live (zeF g (rowG g n) (ze0 g n))=true
    · rw [hu] at hup
      simp (disch:=first | omega | assumption | (simp; done) | fail) [-List.all_eq_true,hof,hup,hrd,zah,hu,zA9]
    · have hu':B.up live (zeF g (rowG g n) (ze0 g n))=false:=by simpa using hu
      rw [hu'] at hup
      by_cases he:(B.sRead live g (rowG g n)).2=0
      · have hlen:(B.sRead live g (rowG g n)).1.length=g.width.toNat:=by
          unfold Ben.sRead at he ⊢
          rw [if_neg (by simp [hr])] at he ⊢
          split
          · rename_i hx; rw [if_pos hx] at he; exact absurd he (by decide)
          · rename_i hx
            rw [if_neg hx] at he
            cases ht:zuY g (rowG g n) (B.secs live (rowG g n) g.d.toNat) with
            | none=>rw [ht] at he; exact absurd he (by decide)
            | some o=>exact zAE ht
        have hnums:=zpT g (rowG g n)
        have hnd:zuW g (rowG g n)=numD g (rowG g n) g.width.toNat:=by unfold zuW; rw [if_pos hr]
        rw [hnd] at hnums
        rw [he] at hsr
        simp (disch:=first | omega | assumption | (simp; done) | fail) only [hof,zad,zdN,zeZ,zeY,zbp,zcl,Bool.not_true,zaw,hup,zcy,hsr,zbH,zlR,hnums,zae,Nat.zero_add,Nat.le_refl,zh0,hu',he,if_true,if_false,ne_eq,not_true_eq_false,Bool.false_eq_true,reduceCtorEq]
        generalize (B.sRead live g (rowG g n)).1=out at*
        let s2:Nat→(Int×List D×List D×Int×Int×PUnit)×List (List D)×List (List D)×PUnit:=fun j=>((n,pL (fP out),numD g (rowG g n) g.width.toNat,((g.width.toNat:Nat):Int),(j:Int),PUnit.unit),P0 T0 b idx B,P1 T1 idx B,PUnit.unit)
        show zcs _ (s2 0)=_
        refine zdV s2 (ze0 g n).toNat (by omega) ?_ ?_
        · intro again j hj
          dsimp only [s2]
          have hne:¬ numP g (rowG g n) j=n:=by
            intro e
            have:=zCn hr (j:=(j:Int)) (k:=ze0 g n) (by omega) (by omega) hcol.1 hcol.2 (by rw [e,zy9 hc.1 hc.2])
            omega
          have hgn:(numD g (rowG g n) g.width.toNat)[j]? =some (.int .i64 (numP g (rowG g n) j)):=zsb g (rowG g n) g.width.toNat (by omega)
          have hlt:(j:Int) < ((g.width.toNat:Nat):Int):=by omega
          have hlt2:j < g.width.toNat:=by omega
          simp (disch:=first | omega | assumption | (simp; done) | fail) [-List.all_eq_true,hlt,hlt2,zh0,zaq hgn,hne,zah]
        · intro again
          dsimp only [s2]
          have hgn:(numD g (rowG g n) g.width.toNat)[(ze0 g n).toNat]? =some (.int .i64 (numP g (rowG g n) ((ze0 g n).toNat:Int))):=zsb g (rowG g n) g.width.toNat (by omega)
          rw [show (((ze0 g n).toNat:Nat):Int)=ze0 g n by omega,zy9 hc.1 hc.2] at hgn
          have hgo:(pL (fP out))[(ze0 g n).toNat]? =some (.sl .fresh (uL (out.getD (ze0 g n).toNat []))):=zsJ (by omega)
          rw [show (((ze0 g n).toNat:Nat):Int)=ze0 g n by omega]
          have hlt:ze0 g n < ((g.width.toNat:Nat):Int):=by omega
          have hlt2:(ze0 g n).toNat < g.width.toNat:=by omega
          simp (disch:=first | omega | assumption | (simp; done) | fail) [-List.all_eq_true,hlt,hlt2,hcol.1,zh0,zaq hgn,zaq hgo,hlen,zA9]
      · simp (disch:=first | omega | assumption | (simp; done) | fail) [-List.all_eq_true,hof,hup,hsr,hu',he]
        rfl
  · have ho:ofP g n=(0,0,false):=by unfold ofP; rw [if_neg hc]
    rw [ho] at hof ⊢
    simp [hof]
    rfl
end
end Wf

namespace Wf
open Go Go.RowKit Go.Proofs
set_option linter.unusedSimpArgs false
set_option linter.unusedVariables false
set_option maxHeartbeats 4000000
def zvk (w left:Int) (down:Bool) (hs:List D):List D:=[.int .i64 w,.int .i64 left,.bool down,.sl .own hs]
theorem zvl (m k:Nat):((List.range k).map fun j=>hD (m+j))++[hD (m+k)]=(List.range (k+1)).map fun j=>hD (m+j):=by simp [List.range_succ]
theorem zxi (l:List Nat):zc8 (l.map hD)=true:=by simp only [zc8,List.all_map,List.all_eq_true]; intro i _; rfl
theorem zze (l:List Nat):zfk 1 (l.map hD)=true:=by simp only [zfk,List.all_map,List.all_eq_true]; intro i _; rfl
theorem zqt {α:Type} (k:Nat) (a:α):List.replicate k a++[a]=List.replicate (k+1) a:=by
  rw [List.replicate_succ']
theorem zAG (T0 T1:Tb) {n:Int} (h0:1≤n) (h1:n≤8):
    zbl [.int .i64 n] [T0,T1]=some (Ans.mk (.tup [.h kB T0.length 0,.int .i64 0]) []
      [T0++[zvk 0 (-1) false ((List.range n.toNat).map fun j=>hD (T1.length+j))],T1++List.replicate n.toNat DS.new.cells]):=by
  rw [zp3]
  unfold zk1
  have d1:decide (n < 1)=false:=by simp; omega
  have d2:decide (n > 8)=false:=by simp; omega
  rw [d1,zaw,d2,zaw,zuN]
  have hn:n=(n.toNat:Int):=by omega
  let st:Nat→(Nat×Int×Int×PUnit)×List (List D)×List (List D)×PUnit:=fun k=>
    ((T0.length,n,(k:Int),PUnit.unit),T0++[zvk 0 (-1) false ((List.range k).map fun j=>hD (T1.length+j))],T1++List.replicate k DS.new.cells,PUnit.unit)
  have h00:st 0=((T0.length,n,0,PUnit.unit),T0++[[D.own0 (D.int IntKind.i64 (0:Int)),D.own0 (D.int IntKind.i64 (-1:Int)),D.own0 (D.bool false),D.own0 (D.sl Tag.nil [])]],T1,PUnit.unit):=by
    simp [st,zvk,D.own0]
  rw [←h00]
  refine zcQ st n.toNat (by omega) ?_ ?_
  · intro again k hk
    dsimp only [st]
    have hd:decide ((k:Int) < n)=true:=by simp; omega
    have hrow:(T0++[zvk 0 (-1) false ((List.range k).map fun j=>hD (T1.length+j))])[T0.length]? =some (zvk 0 (-1) false ((List.range k).map fun j=>hD (T1.length+j))):=by simp
    have hnew:=zEj (T1++List.replicate k DS.new.cells)
    have hl:(T1++List.replicate k DS.new.cells).length=T1.length+k:=by simp
    rw [hl,List.append_assoc,zqt] at hnew
    rw [hd,za6,zaq hrow]
    unfold zvk at hrow ⊢
    rw [zhp,zhp,zhp,ztJ,zbH,hnew,zad,zcy,zdA,zcy,zae (by rfl),zae (by rfl),zaq hrow,zhp,zhp,zhp,ztJ,zbH]
    rw [zae (by simp; omega),zae (by rfl),zae (by rfl),zuN,zuO hrow]
    have hset:=zlP hrow (List.set [D.int .i64 0,.int .i64 (-1),.bool false,.sl .own ((List.range k).map fun j=>hD (T1.length+j))] 3 .undef)
    have hsn:=zvl T1.length k
    unfold hD at hsn
    have hH:(List.map (fun j=>hD (T1.length+j)) (List.range k))++[D.h kD (T1.length+k) 0]=(List.range (k+1)).map fun j=>hD (T1.length+j):=hsn
    dsimp only
    rw [zaq hset,zae (by simp),hH,zae (by simp)]
    have e1:((List.range (k+1)).map fun j=>hD (T1.length+j))=((List.range (k+1)).map fun j=>T1.length+j).map hD:=by rw [List.map_map]; rfl
    rw [e1,zae (zxi _),zae (zze _),zuN,zaZ,zah (by omega) (by omega),zeE hset,←e1,List.set_set]
    simp [zvk]
  · intro again
    dsimp only [st]
    have hd:decide (((n.toNat:Nat):Int) < n)=false:=by simp; omega
    rw [hd,zaw]
def nIdx (T1:Tb) (n:Nat):List Nat:=(List.range n).map fun j=>T1.length+j
def nT0 (T0 T1:Tb) (n:Nat):Tb:=T0++[bRow (Ben.new n) (nIdx T1 n)]
def nT1 (T1:Tb) (n:Nat):Tb:=T1++List.replicate n DS.new.cells
theorem zCq (T1:Tb) (n:Nat):((List.range n).map fun j=>hD (T1.length+j))=(nIdx T1 n).map hD:=by unfold nIdx; rw [List.map_map]; rfl
theorem zDF (T0 T1:Tb) {n:Nat} (h8:n≤8):At (nT0 T0 T1 n) (nT1 T1 n) T0.length (nIdx T1 n) (Ben.new n):=by
  refine ⟨by simp [nT0],?_,fun i hi=>?_,by simp [nIdx,Ben.new],zq9 h8⟩
  · unfold List.Nodup nIdx
    rw [List.pairwise_map]
    exact List.Pairwise.imp (fun h e=>h (by omega)) (List.nodup_range (n:=n))
  · unfold nIdx at hi
    obtain ⟨j,hj,rfl⟩:=List.mem_map.1 hi
    have:=List.mem_range.1 hj
    simp [nT1]; omega
theorem zDG (T0 T1:Tb) (n:Nat):P0 (nT0 T0 T1 n) T0.length (nIdx T1 n) (Ben.new n)=nT0 T0 T1 n:=zCb (by unfold nT0; simp)
theorem zDH (T1:Tb) (n:Nat):P1 (nT1 T1 n) (nIdx T1 n) (Ben.new n)=nT1 T1 n:=by
  unfold P1
  show putL _ _ _++[]=_
  rw [List.append_nil]
  refine ztR fun j i c h1 h2=>?_
  have hj:j < n:=by have:=zaT h1; simpa [nIdx] using this
  have e1:i=T1.length+j:=by
    unfold nIdx at h1
    rw [List.getElem?_map,List.getElem?_range hj] at h1
    simpa using h1.symm
  have e2:c=DS.new.cells:=by
    have:(Ben.new n).ds.map DS.cells=List.replicate n DS.new.cells:=by unfold Ben.new; simp
    rw [this] at h2
    rw [List.getElem?_replicate,if_pos hj] at h2
    exact (Option.some.inj h2).symm
  subst e1 e2
  unfold nT1
  rw [List.getElem?_append_right (by omega),show T1.length+j - T1.length=j by omega,List.getElem?_replicate,if_pos hj]
theorem zEl (T0 T1:Tb) {n:Nat} (h0:1≤n) (h8:n≤8):
    zbl [.int .i64 n] [T0,T1]=some (Ans.mk (.tup [.h kB T0.length 0,.int .i64 0]) [] [P0 (nT0 T0 T1 n) T0.length (nIdx T1 n) (Ben.new n),P1 (nT1 T1 n) (nIdx T1 n) (Ben.new n)]):=by
  rw [zAG T0 T1 (by omega) (by omega),zDG,zDH,Int.toNat_natCast,zCq]
  rfl
structure Still (B:Ben):Prop where
  ok:B.Ok
  down:B.down=false
  ds:∀ s∈B.ds,s.failed=false∧s.pend=[]
theorem Still.dk {B:Ben} (h:Still B) (d:Int):(B.dk d).failed=false∧(B.dk d).pend=[]:=by
  unfold Ben.dk
  cases e:B.ds[d.toNat]? with
  | none=>exact ⟨rfl,rfl⟩
  | some s=>exact h.ds s (List.mem_of_getElem? e)
theorem Still.failed {B:Ben} (h:Still B) (d:Int):B.failed d=false:=by unfold Ben.failed; rw [(h.dk d).1,Bool.and_false]
theorem zzf {n:Nat} (h:n≤8):Still (Ben.new n):=⟨zq9 h,rfl,fun s hs=>by
  unfold Ben.new at hs
  rw [(List.mem_replicate.1 hs).2]; exact ⟨rfl,rfl⟩⟩
section
variable {B:Ben} {d a:Int} {x:List Int}
end
def rowL (g:Geo) (l:List Int) (r:Nat):List (List Int):=secL (l.drop (min r l.length)) g.width.toNat
structure Filld (gs:Nat→Geo) (l:List Int) (n:Nat) (R:Nat) (B:Ben):Prop where
  still:Still B
  num:B.n=n
  w:B.w=0
  left:B.left= -1
  cur:∀ d a:Int,0≤d→0≤a→a < 52→B.cur d a=if 36≤a∧a < 36+R∧d < (gs (a - 36).toNat).d∧d < n then atR (gs (a - 36).toNat) (a - 36) (rowL (gs (a - 36).toNat) l (a - 36).toNat) d else zfA
end Wf

namespace Wf
open Go Go.RowKit Go.Proofs
set_option linter.unusedSimpArgs false
set_option linter.unusedVariables false
set_option maxHeartbeats 4000000
section
variable {T0 T1:Tb}
end
end Wf

namespace Wf
open Go Go.RowKit Go.Proofs
set_option linter.unusedSimpArgs false
set_option linter.unusedVariables false
set_option maxHeartbeats 4000000
section
variable {B:Ben} {d a:Int}
theorem zAH (hd:B.is d=true) {e b:Int} (e0:0≤e) (hne:e≠d):(B.fail d).2.cur e b=B.cur e b:=by
  unfold Ben.fail
  rw [if_pos hd]
  unfold Ben.cur
  rw [zhY hd e0,if_neg hne]
theorem zvm (hd:B.is d=true) {e:Int} (he:B.is e=true):(B.fail d).2.failed e=(decide (e=d) || B.failed e):=by
  unfold Ben.fail
  rw [if_pos hd]
  unfold Ben.failed
  rw [zuV,he,zhY hd (zgD.1 he).1]
  by_cases h:e=d
  · subst h; rw [if_pos rfl,show DS.dead.failed=true from rfl]; simp
  · rw [if_neg h]; simp [h]
theorem zzg (hd:B.is d=true):(B.fail d).1=0∧(B.fail d).2.n=B.n∧(B.fail d).2.down=B.down∧(B.fail d).2.left=B.left∧(B.fail d).2.w=B.w:=by
  unfold Ben.fail
  rw [if_pos hd]
  exact ⟨rfl,by simp,rfl,rfl,rfl⟩
end
theorem zAI {n:Nat} {d:Int} (d0:0≤d):((List.replicate n true)[d.toNat]?).getD false=decide (d < n):=by
  rw [List.getElem?_replicate]
  by_cases h:d < n
  · rw [if_pos (by omega)]; simp [h]
  · rw [if_neg (by omega)]; simp [h]
theorem zDI {B:Ben} {n:Nat} (hn:B.n=n) {d:Int} (d0:0≤d):B.up (List.replicate n true) d=(decide (d < n) && !B.failed d):=by
  unfold Ben.up
  rw [zAI d0,hn]
  cases decide (d < (n:Int))<;>simp
theorem zol (B:Ben) (live:List Bool) (g:Geo) (r:Int) (data:List (List Int)):nW (B.wActs live g r data)≤g.d.toNat:=by
  unfold Ben.wActs
  have:∀ n,nW ((List.range n).flatMap fun (d:Nat)=>if B.up live d then [Act.w d (36+r) (atR g r data d)] else [])≤n:=by
    intro n
    induction n with
    | zero=>simp [nW]
    | succ n ih=>
      rw [List.range_succ,List.flatMap_append,zpk]
      have:nW (List.flatMap (fun (d:Nat)=>if B.up live d then [Act.w d (36+r) (atR g r data d)] else []) [n])≤1:=by
        simp only [List.flatMap_cons,List.flatMap_nil,List.append_nil]
        split
        · exact Nat.le_trans (List.length_filter_le _ _) (by simp)
        · simp [nW]
      omega
  exact this _
theorem zom (B:Ben) (live:List Bool):nW (B.fActs live)=0:=by
  unfold Ben.fActs nW
  rw [List.length_eq_zero_iff,List.filter_eq_nil_iff]
  intro a ha
  obtain ⟨d,_,ha⟩:=List.mem_flatMap.1 ha
  split at ha
  · rw [List.mem_singleton.1 ha]; simp [Act.isW]
  · cases ha
theorem zvn {B:Ben} (hB:B.Ok) (hd:B.down=false) {live:List Bool} {g:Geo} {r:Int} {data:List (List Int)} (hr:zcM g r=true) (hR:Row g data) (hl:B.left < 0∨8≤B.left):
    B.sWrite live g r data=(0,does B (B.wActs live g r data))∧Does B (B.wActs live g r data):=by
  have hdd:=ok_d (zb2.1 hr).1
  have hn:=zol B live g r data
  have:=zlV (B.wActs live g r data) hB hd (zwi hr hR) (by omega)
  refine ⟨?_,this⟩
  unfold Ben.sWrite
  rw [zlW hr hR,if_neg (by simp),this.run]
theorem zvo {B:Ben} (hB:B.Ok) (hd:B.down=false) (live:List Bool) (hl:B.left < 0∨0≤B.left):B.sFlush live=(0,does B (B.fActs live))∧Does B (B.fActs live):=by
  have:=zlV (B.fActs live) hB hd zse (by rw [zom]; omega)
  exact ⟨this.run,this⟩
theorem zzh {B:Ben} {live:List Bool} (h:Does B (B.fActs live)) {e b:Int} (e0:0≤e) (b0:0≤b) (b1:b < 52):(does B (B.fActs live)).cur e b=B.cur e b:=by
  rw [h.cur e b e0 b0 b1]
  exact zhr (zwj e b) _
theorem zzi {B:Ben} {live:List Bool} {g:Geo} {r:Int} {data:List (List Int)} (h:Does B (B.wActs live g r data)) {e b:Int} (e0:0≤e) (e1:e < g.d) (b0:0≤b) (b1:b < 52):
    (does B (B.wActs live g r data)).cur e b=if b=36+r∧B.up live e=true then atR g r data e else B.cur e b:=by
  rw [h.cur e b e0 b0 b1]
  by_cases hc:b=36+r∧B.up live e=true
  · rw [if_pos hc,hc.1]
    have:=ztV (B:=B) (live:=live) (g:=g) (r:=r) (data:=data) (d:=e.toNat) (by omega) (by rw [show ((e.toNat:Nat):Int)=e by omega]; exact hc.2) B.cur
    rw [show ((e.toNat:Nat):Int)=e by omega] at this
    exact this
  · rw [if_neg hc]
    refine zhr (zu0 ?_) _
    by_cases hb:b=36+r
    · refine .inr ?_
      cases hu:B.up live e
      · rfl
      · exact absurd ⟨hb,hu⟩ hc
    · exact .inl hb
end Wf

namespace Wf
open Go Go.RowKit Go.Proofs
set_option linter.unusedSimpArgs false
set_option linter.unusedVariables false
set_option maxHeartbeats 4000000
theorem zxj (l:List Bool):(l.map D.bool).all D.free=true:=by rw [List.all_map,List.all_eq_true]; intro b _; rfl
theorem zxk {d k:Nat} (hk:k < d):((List.range d).map fun i=>D.bool (decide (i < k))).set k (.bool true)=(List.range d).map fun i=>D.bool (decide (i < k+1)):=by
  apply List.ext_getElem?
  intro j
  rw [List.getElem?_set]
  by_cases hj:j < d
  · by_cases hjk:k=j
    · subst hjk; simp [hj]
    · rw [if_neg hjk]
      simp only [List.getElem?_map,List.getElem?_range hj,Option.map_some,Option.some.injEq,D.bool.injEq,decide_eq_decide]
      omega
  · have h1:k≠j:=by omega
    rw [if_neg h1,List.getElem?_eq_none (by simp; omega),List.getElem?_eq_none (by simp; omega)]
theorem zAJ {d:Nat} (h0:1≤d) (h8:d≤8):zbs [.int .i64 0,.int .i64 d]=some (.sl .own ((List.replicate d true).map D.bool)):=by
  rw [zke]
  unfold zeI
  rw [zae (by omega),zae (by rfl),zae (by omega),zae (by omega),zae (by simp),zae (by simp),Int.toNat_natCast]
  let st:Nat→(Int×Int×List D×Int×Int×PUnit)×PUnit:=fun k=>((0,(d:Int),(List.range d).map (fun i=>D.bool (decide (i < k))),(d:Int),(k:Int),PUnit.unit),PUnit.unit)
  have hst:st 0=((0,(d:Int),List.replicate d (D.bool false),(d:Int),0,PUnit.unit),PUnit.unit):=by
    have:(List.range d).map (fun i=>D.bool (decide (i < 0)))=List.replicate d (D.bool false):=by
      apply List.ext_getElem?; intro j
      by_cases hj:j < d
      · simp [hj]
      · rw [List.getElem?_eq_none (by simp; omega),List.getElem?_eq_none (by simp; omega)]
    simp only [st,this]; rfl
  rw [←hst]
  refine zcQ st d (by omega) ?_ ?_
  · intro again k hk
    dsimp only [st]
    have hd:decide ((k:Int) < (d:Int))=true:=by simp; omega
    have hg:((List.range d).map (fun i=>D.bool (decide (i < k))))[k]? =some (.bool false):=by simp [hk]
    rw [hd,za6,zae (by omega),zae (by simp; omega),Nat.zero_add,show Int.toNat (k:Int)=k from rfl,zaq hg,zae (by rfl),zaZ,zah (by omega) (by omega),zae (by simp),zxk hk]
    rfl
  · intro again
    dsimp only [st]
    have hd:decide ((d:Int) < (d:Int))=false:=by simp
    have hd1:decide ((d:Int) > 0)=true:=by simp; omega
    have hall:(List.range d).map (fun i=>D.bool (decide (i < d)))=(List.replicate d true).map D.bool:=by
      apply List.ext_getElem?; intro j
      by_cases hj:j < d
      · simp [hj]
      · rw [List.getElem?_eq_none (by simp; omega),List.getElem?_eq_none (by simp; omega)]
    have hz:decide ((0:Int) % 3 > 0)=false:=rfl
    have hz2:((0:Int) % 9 == 8)=false:=rfl
    rw [hd,zaw,hd1,za6,zpO 0 3 (by omega) (by omega),zad,zbp,hz,zaw,za6,zpO 0 9 (by omega) (by omega),zad,zbp,hz2,zaw,zae (by rfl),hall,zae (zxj _)]
end Wf

namespace Wf
open Go Go.RowKit
universe u
def idf {α:Sort u} (a:α):α:=a
@[simp] theorem zbI {α:Sort u} (a:α):idf a=a:=congrFun (funext fun _=>rfl) a
section
variable {R α β:Type}
@[congr high] theorem zDY {b b':Bool} {x y:Option R} (h:idf b=b'):brK b x y=brK b' x y:=by rw [zbI] at h; rw [h]
@[congr high] theorem zCM {x x':Option α} {f:α→Option R} (h:idf x=x'):zan x f=zan x' f:=by rw [zbI] at h; rw [h]
@[congr high] theorem zDZ {c c':Prop} [d:Decidable c] [d':Decidable c'] {x:Option R} (h:idf c=c'):sif c x=sif c' x:=by rw [zbI] at h; subst h; congr
@[congr high] theorem zDJ {n n':Int} {f:Int→Option R} (h:idf n=n'):letN n f=letN n' f:=by rw [zbI] at h; rw [h]
@[congr high] theorem zDK {l l':List α} {i i':Nat} {f:α→Option R} (h:idf l=l') (h':idf i=i'):getK l i f=getK l' i' f:=by rw [zbI] at h h'; rw [h,h']
@[congr high] theorem zD0 {k:IntKind} {d d':D} {f:Int→Option R} (h:idf d=d'):asI k d f=asI k d' f:=by rw [zbI] at h; rw [h]
@[congr high] theorem zD1 {d d':D} {f:Bool→Option R} (h:idf d=d'):asB d f=asB d' f:=by rw [zbI] at h; rw [h]
@[congr high] theorem zD2 {d d':D} {f:ByteArray→Option R} (h:idf d=d'):asS d f=asS d' f:=by rw [zbI] at h; rw [h]
@[congr high] theorem zDL {d d':D} {f:Tag→List D→Option R} (h:idf d=d'):asSl d f=asSl d' f:=by rw [zbI] at h; rw [h]
@[congr high] theorem zCN {d d':D} {f:List D→Option R} (h:idf d=d'):zbk d f=zbk d' f:=by rw [zbI] at h; rw [h]
@[congr high] theorem zCr {d d':D} {f:List D→Option R} (h:idf d=d'):zks d f=zks d' f:=by rw [zbI] at h; rw [h]
@[congr high] theorem zCO {d d':D} {f:List D→Option R} (h:idf d=d'):asAgg d f=asAgg d' f:=by rw [zbI] at h; rw [h]
@[congr high] theorem zCP {d d':D} {f:List D→Option R} (h:idf d=d'):zdx d f=zdx d' f:=by rw [zbI] at h; rw [h]
@[congr high] theorem zDM {d d':D} {f:D→Option R} (h:idf d=d'):asAt d f=asAt d' f:=by rw [zbI] at h; rw [h]
@[congr high] theorem zCQ {d d':List D} {f:D→Option R} (h:idf d=d'):zx2 d f=zx2 d' f:=by rw [zbI] at h; rw [h]
@[congr high] theorem zD3 {k:Nat} {d d':D} {f:Nat→Option R} (h:idf d=d'):asH k d f=asH k d' f:=by rw [zbI] at h; rw [h]
@[congr high] theorem zCR {d d':D} {f:Bool→Option R} (h:idf d=d'):znO d f=znO d' f:=by rw [zbI] at h; rw [h]
@[congr high] theorem zCs {d d':D} {f:Bool→Option R} (h:idf d=d'):zoQ d f=zoQ d' f:=by rw [zbI] at h; rw [h]
@[congr high] theorem zCt {kk:MK} {d d':D} {f:List (Int×D)→Option R} (h:idf d=d'):zhj kk d f=zhj kk d' f:=by rw [zbI] at h; rw [h]
@[congr high] theorem zCS {kk:MK} {d d':D} {f:List (Int×D)→Option R} (h:idf d=d'):zoR kk d f=zoR kk d' f:=by rw [zbI] at h; rw [h]
@[congr high] theorem zDN {T T':Tb} {f:Tb→Option R} (h:idf T=T'):letT T f=letT T' f:=by rw [zbI] at h; rw [h]
@[congr high] theorem zCT {l l':List α} {f:α→List α→Option R} (h:idf l=l'):zdL l f=zdL l' f:=by rw [zbI] at h; rw [h]
@[congr high] theorem zDO {l l':List α} {x:Option R} (h:idf l=l'):nilK l x=nilK l' x:=by rw [zbI] at h; rw [h]
@[congr high] theorem zAK {ls:List Lf} {d d':List D} {f:LfT ls→Option R} (h:idf d=d'):zas ls d f=zas ls d' f:=by rw [zbI] at h; rw [h]
@[congr high] theorem zCU {B:(α→Option R)→α→Option R} {a a':α} (h:idf a=a'):zcs B a=zcs B a':=by rw [zbI] at h; rw [h]
end
@[simp] theorem zD4 (k i:Nat):zhl (.h k i 0)=true:=rfl
@[simp] theorem zEv (k i:Nat):D.free (.h k i 0)=true:=rfl
@[simp] theorem zed {R:Type} (a b:D) (f:LfT [.any,.any]→Option R):zas [.any,.any] [a,b] f=f (a,b,()):=by rw [zeZ,zeZ,zeY]
@[simp] theorem zD5 {β:Type} {l:List β} {n:Nat} (h:l.length=n):cut 0 n l=l:=by subst h; exact zdO l
end Wf

namespace Wf
open Go Go.RowKit Go.Proofs
set_option linter.unusedSimpArgs false
set_option linter.unusedVariables false
set_option maxHeartbeats 4000000
theorem zzj {T0:Tb} {b:Nat} {idx:List Nat}:∀ (l:List Act) (B:Ben),(∀ a∈l,a.isW=false)→P0 T0 b idx (does B l)=P0 T0 b idx B
  | [],B,_=>rfl
  | a::l,B,h=>by
    show P0 T0 b idx (does (B.does1 a) l)=_
    rw [zzj l _ fun a ha=>h a (List.mem_cons_of_mem _ ha)]
    have:=h a (List.mem_cons_self ..)
    cases a with
    | w d a x=>cases this
    | f d=>rfl
theorem zzk (B:Ben) (live:List Bool):∀ a∈B.fActs live,a.isW=false:=by
  intro a ha
  unfold Ben.fActs at ha
  obtain ⟨e,he,ha⟩:=List.mem_flatMap.1 ha
  split at ha
  · rw [List.mem_singleton.1 ha]; rfl
  · cases ha
structure Run (U V:Tb) (b:Nat) (idx:List Nat) (B:Ben) (n:Nat) (K:Int):Prop where
  at':At U V b idx B
  num:B.n=n
  down:B.down=false
  left:B.left= -1
  w:B.w≤K
theorem Run.mono {U V:Tb} {b:Nat} {idx:List Nat} {B:Ben} {n:Nat} {K L:Int} (h:Run U V b idx B n K) (hk:K≤L):Run U V b idx B n L:=⟨h.at',h.num,h.down,h.left,by have:=h.w; omega⟩
section
variable {U V:Tb} {b:Nat} {idx:List Nat} {B:Ben} {n:Nat} {K:Int}
theorem Run.up (h:Run U V b idx B n K) {d:Int} (d0:0≤d):B.up (List.replicate n true) d=(decide (d < n) && !B.failed d):=zDI h.num d0
theorem Run.is (h:Run U V b idx B n K) {d:Int} (d0:0≤d) (d1:d < n):B.is d=true:=zgD.2 ⟨d0,by rw [h.num]; exact d1⟩
theorem Run.write (h:Run U V b idx B n K) (hK:K≤900000) (tg:Tag) (live:List Bool) {g:Geo} {r:Int} (hr:zcM g r=true) (tg2:Tag) {data:List (List Int)} (hR:Row g data):∃ B1,
    zbE [.h kB b 0,.sl tg (live.map D.bool),.agg [.int .i64 g.l,.int .i64 g.d,.int .i64 g.c],.int .i64 r,.sl tg2 (pL (fP data))] [P0 U b idx B,P1 V idx B]=some (Ans.mk (.int .i64 0) [] [P0 U b idx B1,P1 V idx B1])∧
    Run U V b idx B1 n (K+8)∧(∀ e,B1.failed e=B.failed e)∧B1=does B (B.wActs live g r data)∧(∀ e a:Int,0≤e→e < g.d→0≤a→a < 52→B1.cur e a=if a=36+r∧B.up live e=true then atR g r data e else B.cur e a):=by
  obtain ⟨hw1,hD1⟩:=zvn h.at'.ok h.down (live:=live) hr hR (.inl (by rw [h.left]; omega))
  have hdd:=ok_d (zb2.1 hr).1
  have hw:=h.w
  have hwd:=zce (zb2.1 hr).1
  have hsw:=znK h.at' (by omega) tg live g r tg2 (ps:=fP data) (by have:=hR.len; simp; omega) (by intro x hx; obtain ⟨y,hy,rfl⟩:=List.mem_map.1 hx; exact hR.sec y hy)
  rw [zwn,hw1] at hsw
  have hn:=zol B live g r data
  have hnx:=hD1.nx.w
  refine ⟨does B (B.wActs live g r data),hsw,⟨h.at'.nx hD1.nx,hD1.nx.n.trans h.num,hD1.down.trans h.down,by rw [hD1.left,h.left]; rfl,by omega⟩,hD1.failed,rfl,fun e a e0 e1 a0 a1=>zzi hD1 e0 e1 a0 a1⟩
theorem Run.flush (h:Run U V b idx B n K) (hK:K≤900000) (tg:Tag) (live:List Bool):∃ B1,
    zbF [.h kB b 0,.sl tg (live.map D.bool)] [P0 U b idx B,P1 V idx B]=some (Ans.mk (.int .i64 0) [] [P1 V idx B1])∧P0 U b idx B=P0 U b idx B1∧
    Run U V b idx B1 n K∧(∀ e,B1.failed e=B.failed e)∧B1=does B (B.fActs live)∧(∀ e a:Int,0≤e→0≤a→a < 52→B1.cur e a=B.cur e a):=by
  obtain ⟨hw1,hD1⟩:=zvo h.at'.ok h.down live (.inl (by rw [h.left]; omega))
  have hw:=h.w
  have hsf:=znL h.at' (by omega) tg live
  rw [hw1] at hsf
  have hnx:=hD1.nx.w
  rw [zom] at hnx
  refine ⟨does B (B.fActs live),hsf,(zzj _ _ (zzk B live)).symm,⟨h.at'.nx hD1.nx,hD1.nx.n.trans h.num,hD1.down.trans h.down,by rw [hD1.left,h.left,zom]; rfl,by omega⟩,hD1.failed,rfl,fun e a e0 a0 a1=>zzh hD1 e0 a0 a1⟩
theorem Run.fail (h:Run U V b idx B n K) {d:Int} (d0:0≤d) (d1:d < n):∃ B1,
    zeq [.h kB b 0,.int .i64 d] [P0 U b idx B,P1 V idx B]=some (Ans.mk (.int .i64 0) [] [P1 V idx B1])∧P0 U b idx B=P0 U b idx B1∧
    Run U V b idx B1 n K∧(∀ e:Int,0≤e→e < n→B1.failed e=(decide (e=d) || B.failed e))∧B1=(B.fail d).2∧(∀ e a:Int,0≤e→e≠d→B1.cur e a=B.cur e a):=by
  have hd:=h.is d0 d1
  obtain ⟨f1,f2,f3,f4,f5⟩:=zzg hd
  have hf:=zDy h.at' d
  rw [f1] at hf
  have hp:P0 U b idx B=P0 U b idx (B.fail d).2:=by unfold Ben.fail; rw [if_pos hd]; rfl
  have hnx:=zB9 (d:=d) h.at'.ok
  refine ⟨(B.fail d).2,hf,hp,⟨h.at'.nx hnx,f2.trans h.num,f3.trans h.down,f4.trans h.left,by rw [f5]; exact h.w⟩,fun e e0 e1=>zvm hd (h.is e0 e1),rfl,fun e a e0 hne=>zAH hd e0 hne⟩
end
end Wf

namespace Wf
open Go Go.RowKit Go.Proofs
set_option linter.unusedSimpArgs false
set_option linter.unusedVariables false
set_option maxHeartbeats 4000000
@[simp ↓] theorem zEw {R α:Type} (g:α→Option R) (f:(α→Option R)→Option R):jn g f=f g:=rfl
section
variable {T0 T1:Tb} {b:Nat} {idx:List Nat} {B:Ben}
end
end Wf

namespace Wf
open Go Go.RowKit Go.Proofs
set_option linter.unusedSimpArgs false
set_option linter.unusedVariables false
set_option maxHeartbeats 4000000
def Ben.nP (B:Ben) (d:Int):Nat:=(B.dk d).pend.length
section
variable {B:Ben}
theorem zAL (B:Ben) (a:Act):does B [a]=B.does1 a:=rfl
theorem zws {a:Act} (h:a.Ok B) {e:Int} (e0:0≤e):(B.does1 a).nP e=match a with
    | .w d _ _=>if e=d then B.nP e+1 else B.nP e
    | .f d=>if e=d then 0 else B.nP e:=by
  cases a with
  | w d a x=>
    show (((B.junk ((B.dk d).write a x).2).less.setD d ((B.dk d).add a x)).dk e).pend.length=if e=d then B.nP e+1 else B.nP e
    rw [zhY (by simpa using h.1) e0]
    by_cases he:e=d
    · subst he; rw [if_pos rfl,if_pos rfl]; simp [DS.add,Ben.nP]
    · rw [if_neg he,if_neg he]; rfl
  | f d=>
    show ((B.setD d (B.dk d).flushed).dk e).pend.length=if e=d then 0 else B.nP e
    rw [zhY h.1 e0]
    by_cases he:e=d
    · subst he; rw [if_pos rfl,if_pos rfl]; rfl
    · rw [if_neg he,if_neg he]; rfl
theorem zzl {as':List Act} (hB:B.Ok):(∀ a∈as',a.Ok B)→(does B as').Ok∧∀ c:Act,c.Ok B→c.Ok (does B as'):=by
  induction as' generalizing B with
  | nil=>intro _; exact ⟨hB,fun c hc=>hc⟩
  | cons a l ih=>
    intro h
    have ha:=h a (List.mem_cons_self ..)
    obtain ⟨i1,i2⟩:=ih (zj2 hB ha).ok fun c hc=>zog hB ha (h c (List.mem_cons_of_mem _ hc))
    exact ⟨i1,fun c hc=>i2 c (zog hB ha hc)⟩
theorem zAM (hB:B.Ok) {live:List Bool} {e:Int} (e0:0≤e):(does B (B.fActs live)).nP e=if B.up live e=true then 0 else B.nP e:=by
  have hok:=zse (B:=B) (live:=live)
  have key:∀ k,k≤B.ds.length→(does B ((List.range k).flatMap fun (d:Nat)=>if B.up live d then [Act.f d] else [])).nP e=if e < k∧B.up live e=true then 0 else B.nP e:=by
    intro k
    induction k with
    | zero=>intro _; rw [if_neg (by omega)]; rfl
    | succ k ih=>
      intro hk
      rw [List.range_succ,List.flatMap_append,zpj]
      have hsub:∀ a∈((List.range k).flatMap fun (d:Nat)=>if B.up live d then [Act.f d] else []),a.Ok B:=by
        intro a ha
        refine hok a ?_
        unfold Ben.fActs
        obtain ⟨d,hd,ha⟩:=List.mem_flatMap.1 ha
        exact List.mem_flatMap.2 ⟨d,List.mem_range.2 (by have:=List.mem_range.1 hd; omega),ha⟩
      obtain ⟨i1,i2⟩:=zzl hB hsub
      have ih:=ih (by omega)
      generalize does B ((List.range k).flatMap fun (d:Nat)=>if B.up live d then [Act.f d] else [])=C at*
      simp only [List.flatMap_cons,List.flatMap_nil,List.append_nil]
      by_cases hu:B.up live (k:Int)=true
      · rw [if_pos hu]
        have ha:(Act.f k).Ok C:=i2 _ (hok _ (by unfold Ben.fActs; exact List.mem_flatMap.2 ⟨k,List.mem_range.2 (by omega),by rw [if_pos hu]; simp⟩))
        rw [zAL]
        rw [zws ha e0]
        dsimp only
        rw [ih]
        by_cases he:e=k
        · subst he; rw [if_pos rfl,if_pos ⟨by omega,hu⟩]
        · rw [if_neg he]
          by_cases hc:e < k∧B.up live e=true
          · rw [if_pos hc,if_pos ⟨by omega,hc.2⟩]
          · rw [if_neg hc,if_neg (fun q=>hc ⟨by omega,q.2⟩)]
      · rw [if_neg hu]
        show C.nP e=_
        rw [ih]
        by_cases he:e=k
        · subst he; rw [if_neg (show ¬ ((k:Int) < (k:Int)∧_) by omega),if_neg (fun q=>hu q.2)]
        · by_cases hc:e < k∧B.up live e=true
          · rw [if_pos hc,if_pos ⟨by omega,hc.2⟩]
          · rw [if_neg hc,if_neg (fun q=>hc ⟨by omega,q.2⟩)]
  have:=key B.ds.length (Nat.le_refl _)
  unfold Ben.fActs
  rw [this]
  by_cases hu:B.up live e=true
  · rw [if_pos hu,if_pos ⟨zDE hu,hu⟩]
  · rw [if_neg hu,if_neg (fun q=>hu q.2)]
end
end Wf

namespace Wf
open Go Go.RowKit Go.Proofs
set_option linter.unusedSimpArgs false
set_option linter.unusedVariables false
set_option maxHeartbeats 4000000
end Wf

namespace Wf
open Go Go.RowKit Go.Proofs
set_option linter.unusedSimpArgs false
set_option linter.unusedVariables false
set_option maxHeartbeats 4000000
section
variable {B:Ben}
end
section
variable {T0 T1:Tb} {b:Nat} {idx:List Nat} {B:Ben}
end
end Wf

namespace Wf
open Go Go.RowKit
set_option linter.unusedSimpArgs false
set_option linter.unusedVariables false
theorem zCu {c r w m row j:Int} (hc:c=1∨c=2∨c=4) (hr:r=1∨r=2∨r=4) (hcr:c≤r) (hw:2≤w∧w≤7) (j0:0≤j) (j1:j < w) (h0:0≤row) (h:row < m*r):(row / c*w+j)*c+row % c < m*(r*w):=by
  have hw:w=2∨w=3∨w=4∨w=5∨w=6∨w=7:=by omega
  rcases hc with rfl | rfl | rfl<;>rcases hr with rfl | rfl | rfl<;>first | (exfalso; omega) | (rcases hw with rfl | rfl | rfl | rfl | rfl | rfl<;>omega)
theorem zAN {c r w m row j:Int} (hc:c=1∨c=2∨c=4) (hr:r=1∨r=2∨r=4) (hcr:c≤r) (hw:2≤w∧w≤7) (j0:0≤j) (j1:j < w) (h0:0≤row) (h:m*r≤row):m*(r*w)≤(row / c*w+j)*c+row % c:=by
  have hw:w=2∨w=3∨w=4∨w=5∨w=6∨w=7:=by omega
  rcases hc with rfl | rfl | rfl<;>rcases hr with rfl | rfl | rfl<;>first | (exfalso; omega) | (rcases hw with rfl | rfl | rfl | rfl | rfl | rfl<;>omega)
theorem zCv {x y:Geo} {k:Int} (h0:0≤k) (h1:k < winP x y):zbf x y k=(k*(zaQ x y*y.width),(k+1)*(zaQ x y*y.width)):=by
  unfold zbf; rw [if_neg (by omega)]
theorem zzm {x y:Geo} {k:Int} (h0:0≤k) (h1:k < winP x y):x.can y=true:=by
  cases h:x.can y
  · have:=(zkX h).2; omega
  · rfl
structure Win (x y:Geo) (k:Int):Prop where
  can:x.can y=true
  xok:x.ok=true
  yok:y.ok=true
  r:zaQ x y=1∨zaQ x y=2∨zaQ x y=4
  xc:x.c≤zaQ x y
  yc:y.c≤zaQ x y
  r0:0≤k*zaQ x y
  r1:(k+1)*zaQ x y≤16
  rr:(k+1)*zaQ x y=k*zaQ x y+zaQ x y
  s1:(zbf x y k).1=k*(zaQ x y*y.width)
  s2:(zbf x y k).2=(k+1)*(zaQ x y*y.width)
  ss:(zbf x y k).2=(zbf x y k).1+zaQ x y*y.width
  s0:0≤(zbf x y k).1
  se:(zbf x y k).2≤y.cap
  m:2≤zaQ x y*y.width∧zaQ x y*y.width≤28
theorem zum {x y:Geo} {k:Int} (h0:0≤k) (h1:k < winP x y):Win x y k:=by
  have hc:=zzm h0 h1
  obtain ⟨k1,k2,k3,k4,k5,k6⟩:=zhZ.1 hc
  obtain ⟨e1,e2⟩:=zkW hc
  obtain ⟨e3,e4,e5⟩:=ztT hc
  have hw:=zce k2
  have hs:=zCv h0 h1
  have hx:=(zd8.1 k1).2.2
  have hy:=(zd8.1 k2).2.2
  have rr:(k+1)*zaQ x y=k*zaQ x y+zaQ x y:=by rw [Int.add_mul,Int.one_mul]
  have ss:(k+1)*(zaQ x y*y.width)=k*(zaQ x y*y.width)+zaQ x y*y.width:=by rw [Int.add_mul,Int.one_mul]
  have hm:2≤zaQ x y*y.width∧zaQ x y*y.width≤28:=by rcases e2 with e | e | e<;>rw [e]<;>omega
  have hr0:0≤k*zaQ x y:=Int.mul_nonneg h0 (by omega)
  have hr1:(k+1)*zaQ x y≤16:=by
    rw [←e5]
    exact Int.mul_le_mul_of_nonneg_right (by omega) (by omega)
  refine ⟨hc,k1,k2,e2,by omega,by omega,hr0,hr1,rr,by rw [hs],by rw [hs],by rw [hs]; exact ss,by rw [hs]; exact Int.mul_nonneg h0 (by omega),?_,hm⟩
  rw [hs]
  show (k+1)*(zaQ x y*y.width)≤y.width*16
  rw [←Int.mul_assoc,Int.mul_comm y.width 16]
  exact Int.mul_le_mul_of_nonneg_right hr1 (by omega)
theorem zsM {x y:Geo} {k r j:Int} (h:Win x y k) (r0:k*zaQ x y≤r) (r1:r < (k+1)*zaQ x y) (j0:0≤j) (j1:j < y.width):(zbf x y k).1≤numP y r j∧numP y r j < (zbf x y k).2:=by
  have hw:=zce h.yok
  have hy:=(zd8.1 h.yok).2.2
  have:=h.r0
  rw [h.s1,h.s2]
  unfold numP
  exact ⟨zAN hy h.r h.yc hw j0 j1 (by omega) r0,zCu hy h.r h.yc hw j0 j1 (by omega) r1⟩
end Wf

namespace Wf
open Go Go.RowKit Go.Proofs
set_option linter.unusedSimpArgs false
set_option linter.unusedVariables false
set_option maxHeartbeats 4000000
theorem zwt:[D.int IntKind.u8 (0:Int),D.int IntKind.u8 (0:Int),D.int IntKind.u8 (0:Int),D.int IntKind.u8 (0:Int),D.int IntKind.u8 (0:Int),D.int IntKind.u8 (0:Int),D.int IntKind.u8 (0:Int),D.int IntKind.u8 (0:Int),D.int IntKind.u8 (0:Int),D.int IntKind.u8 (0:Int),D.int IntKind.u8 (0:Int),D.int IntKind.u8 (0:Int),D.int IntKind.u8 (0:Int),D.int IntKind.u8 (0:Int),D.int IntKind.u8 (0:Int),D.int IntKind.u8 (0:Int),D.int IntKind.u8 (0:Int),D.int IntKind.u8 (0:Int),D.int IntKind.u8 (0:Int),D.int IntKind.u8 (0:Int),D.int IntKind.u8 (0:Int),D.int IntKind.u8 (0:Int),D.int IntKind.u8 (0:Int),D.int IntKind.u8 (0:Int),D.int IntKind.u8 (0:Int),D.int IntKind.u8 (0:Int),D.int IntKind.u8 (0:Int),D.int IntKind.u8 (0:Int),D.int IntKind.u8 (0:Int),D.int IntKind.u8 (0:Int),D.int IntKind.u8 (0:Int),D.int IntKind.u8 (0:Int)]=uL zfA:=rfl
theorem zwu (ls:List (List Int)) (l:List Int):pL (fP ls)++[D.sl .fresh (uL l)]=pL (fP (ls++[l])):=by simp [pL,fP]
section
variable (a to:Geo) (k:Int)
def mayW:Bool:=decide (0≤k) && decide (k < winP a to)
theorem window_may:zbo [.agg [.int .i64 a.l,.int .i64 a.d,.int .i64 a.c],.agg [.int .i64 to.l,.int .i64 to.d,.int .i64 to.c],.int .i64 k]=some (.bool (mayW a to k)):=by
  rw [zpE]
  unfold zjL mayW
  have hw:zaV [.agg [.int .i64 a.l,.int .i64 a.d,.int .i64 a.c],.agg [.int .i64 to.l,.int .i64 to.d,.int .i64 to.c]]=some (.int .i64 (winP a to)):=znJ a to
  by_cases h:0≤k<;>simp [h,hw]
theorem zrr:zbx [.agg [.int .i64 a.l,.int .i64 a.d,.int .i64 a.c],.agg [.int .i64 to.l,.int .i64 to.d,.int .i64 to.c],.int .i64 k]=some (.tup [.int .i64 (zbf a to k).1,.int .i64 (zbf a to k).2]):=zyS a to k
theorem zxl:zaX [.agg [.int .i64 a.l,.int .i64 a.d,.int .i64 a.c],.agg [.int .i64 to.l,.int .i64 to.d,.int .i64 to.c]]=some (.int .i64 (zaQ a to)):=zpM a to
theorem zAO:zaI [.agg [.int .i64 a.l,.int .i64 a.d,.int .i64 a.c]]=some (.int .i64 a.cap):=zyQ a
end
def Act.sec:Act→Prop
  | .w _ _ x=>Sec x
  | .f _=>True
theorem zsN:∀ (l:List Act) {B:Ben},B.Ok→(∀ a∈l,a.sec)→Nx (nW l) B (runA l B).2∧Like B (runA l B).2
  | [],B,hB,_=>⟨.rfl' hB (by simp [nW]),.refl B⟩
  | a::l,B,hB,h=>by
    have ha:=h a (List.mem_cons_self ..)
    have h1:Nx (if a.isW=true then 1 else 0) B (B.act a).2∧Like B (B.act a).2:=by
      cases a with
      | w d a x=>exact ⟨zv9 hB (.inl ha),zrp ..⟩
      | f d=>exact ⟨zwa hB,zrq hB d⟩
    rw [zjg,zyI]
    by_cases h0:(B.act a).1=0
    · rw [if_pos h0]
      obtain ⟨h2,h3⟩:=zsN l h1.1.ok fun c hc=>h c (List.mem_cons_of_mem _ hc)
      exact ⟨(h1.1.trans h2).mono (by split<;>simp),h1.2.trans h3⟩
    · rw [if_neg h0]
      exact ⟨h1.1.mono (by split<;>simp<;>omega),h1.2⟩
theorem zzn {T0:Tb} {b:Nat} {idx:List Nat}:∀ (l:List Act) (B:Ben),(∀ a∈l,a.isW=false)→P0 T0 b idx (runA l B).2=P0 T0 b idx B
  | [],B,_=>rfl
  | a::l,B,h=>by
    have h1:P0 T0 b idx (B.act a).2=P0 T0 b idx B:=by
      have:=h a (List.mem_cons_self ..)
      cases a with
      | w d a x=>cases this
      | f d=>show P0 T0 b idx (B.flush d).2=_; unfold Ben.flush; split<;>rfl
    rw [zjg]
    split
    · rw [zzn l _ fun a ha=>h a (List.mem_cons_of_mem _ ha),h1]
    · exact h1
theorem zpW {B:Ben} {live:List Bool} {g:Geo} {r:Int} {data:List (List Int)} (hr:zcM g r=true) (hR:Row g data):∀ a∈B.wActs live g r data,a.sec:=fun a ha=>by
  unfold Ben.wActs at ha
  obtain ⟨d,hd,ha⟩:=List.mem_flatMap.1 ha
  have hd:=List.mem_range.1 hd
  split at ha
  · rw [List.mem_singleton.1 ha]
    exact zyP hr hR (by omega) (by have:=ok_d (zb2.1 hr).1; omega)
  · cases ha
theorem zzo {B:Ben} (hB:B.Ok) {live:List Bool} {g:Geo} {r:Int} {data:List (List Int)} (hr:zcM g r=true) (hR:Row g data):Nx 8 B (B.sWrite live g r data).2:=by
  unfold Ben.sWrite
  rw [if_neg (by rw [zlW hr hR]; simp)]
  have:=zol B live g r data
  have:=ok_d (zb2.1 hr).1
  exact (zsN _ hB (zpW hr hR)).1.mono (by omega)
def Ben.wOne (B:Ben) (live:List Bool) (a:Geo) (n:Int):List Int×Int:=if a.cap≤n then (zfA,0) else B.sOne live a n
def Ben.wStep (B:Ben) (live:List Bool) (a:Geo) (from':Int) (j:Nat) (acc:List (List Int)):Int×List (List Int):=
  if (B.wOne live a (from'+j)).2=0 then (0,acc++[(B.wOne live a (from'+j)).1]) else ((B.wOne live a (from'+j)).2,acc)
def Ben.wGo (B:Ben) (live:List Bool) (a to:Geo) (k:Int):Int×List (List Int):=runE (B.wStep live a (zbf a to k).1) 0 ((zbf a to k).2 - (zbf a to k).1).toNat []
def Ben.wRead (B:Ben) (live:List Bool) (a to:Geo) (k:Int):List (List Int)×Int:=
  if mayW a to k=false then ([],1) else (if (B.wGo live a to k).1=0 then (B.wGo live a to k).2 else [],(B.wGo live a to k).1)
def rowW (a to:Geo) (k:Int) (data:List (List Int)) (r:Int):List (List Int):=(List.range to.width.toNat).map fun (j:Nat)=>data.getD (numP to r j - (zbf a to k).1).toNat []
def Ben.wRows (B:Ben) (live:List Bool) (a to:Geo) (k:Int) (data:List (List Int)):Int×Ben:=
  runE (fun j B=>B.sWrite live to (k*zaQ a to+j) (rowW a to k data (k*zaQ a to+j))) 0 (zaQ a to).toNat B
def Ben.wWrite (B:Ben) (live:List Bool) (a to:Geo) (k:Int) (data:List (List Int)):Int×Ben:=
  if mayW a to k=false∨(data.length:Int)≠(zbf a to k).2 - (zbf a to k).1∨data.all (fun x=>decide (x.length=32))=false then (1,B)
  else if (B.wRows live a to k data).1=0 then (B.wRows live a to k data).2.sFlush live else B.wRows live a to k data
theorem zCw {B:Ben} {live:List Bool} {g:Geo} {n:Int}:(B.oneT live g n=.fresh∨B.oneT live g n=.nil)∧((B.sOne live g n).2=0→B.oneT live g n=.fresh):=by
  unfold Ben.oneT Ben.sOne
  split
  · exact ⟨.inr rfl,fun e=>absurd e (by decide)⟩
  · split
    · exact ⟨.inl rfl,fun _=>rfl⟩
    · split
      · rename_i h; exact ⟨.inr rfl,fun e=>absurd e h⟩
      · exact ⟨.inl rfl,fun _=>rfl⟩
theorem zfH {a to:Geo} {k:Int}:mayW a to k=true↔0≤k∧k < winP a to:=by unfold mayW; simp
section
variable {T0 T1:Tb} {b:Nat} {idx:List Nat} {B:Ben}
theorem zlq (h:At T0 T1 b idx B) (hw:B.w≤1000000) (tg:Tag) (live:List Bool) (a to:Geo) (k:Int):
    zaR [.h kB b 0,.sl tg (live.map D.bool),.agg [.int .i64 a.l,.int .i64 a.d,.int .i64 a.c],.agg [.int .i64 to.l,.int .i64 to.d,.int .i64 to.c],.int .i64 k] [P0 T0 b idx B,P1 T1 idx B]=
      some (Ans.mk (.tup [.sl .own (pL (fP (B.wRead live a to k).1)),.int .i64 (B.wRead live a to k).2]) [] []):=by
  rw [zn9,zfM]
  unfold zim Ben.wRead
  have hm:=window_may a to k
  cases hmw:mayW a to k
  · rw [hmw] at hm
    simp [hm]; rfl
  rw [hmw] at hm
  obtain ⟨k0,k1⟩:=zfH.1 hmw
  have hW:=zum k0 k1
  have hs:=zrr a to k
  have hs0:=hW.s0
  have hss:=hW.ss
  have hmm:=hW.m
  have hse:=hW.se
  have hyw:=zce hW.yok
  have hyc:to.cap=to.width*16:=rfl
  rw [if_neg (by simp)]
  unfold Ben.wGo
  generalize (zbf a to k).1=fr at*
  generalize (zbf a to k).2=en at*
  have hz:=zwt
  simp only [zbI,hm,hs,zad,zcl,Bool.not_true,zaw,zdN,zpU,zbp]
  let st:Nat→List (List Int)→(Nat×List D×(Int×Int×Int×PUnit)×List D×Int×Int×PUnit)×List (List D)×List (List D)×PUnit:=fun j acc=>
    ((b,live.map D.bool,(a.l,a.d,a.c,PUnit.unit),pL (fP acc),en,fr+j,PUnit.unit),P0 T0 b idx B,P1 T1 idx B,PUnit.unit)
  have hst:st 0 []=((b,live.map D.bool,(a.l,a.d,a.c,PUnit.unit),[],en,fr,PUnit.unit),P0 T0 b idx B,P1 T1 idx B,PUnit.unit):=by
    simp only [zbI,st,Int.natCast_zero,Int.add_zero]; rfl
  rw [←hst]
  refine zlT (B.wStep live a fr) (fun j acc=>acc.length=j) st (fun y=>some (Ans.mk (.tup [.sl .own (pL (fP (if y.1=0 then y.2 else []))),.int .i64 y.1]) [] [])) (en - fr).toNat (by omega) rfl ?_ ?_ ?_
  · rintro j acc hj hacc he
    unfold Ben.wStep at he ⊢
    split
    · simp [hacc]
    · rename_i hne; rw [if_neg hne] at he; exact absurd he hne
  · rintro again j acc hj hacc
    dsimp only [zbI,st]
    have hlt:fr+(j:Int) < en:=by omega
    have hcap:=zAO a
    have hwr:IntKind.i64.wrap (fr+(j:Int)+1)=fr+((j+1:Nat):Int):=by rw [zah (by omega) (by omega)]; omega
    unfold Ben.wStep Ben.wOne
    by_cases hc:a.cap≤fr+(j:Int)
    · have hsn:=zwu acc zfA
      simp (disch:=first | omega | assumption | (simp; done) | fail) [-List.all_eq_true,hlt,hcap,hc,hz,hsn,hwr,hacc]
    · rw [if_neg hc]
      have hone:=zxh h hw .lent live a (fr+(j:Int))
      obtain ⟨ht1,ht2⟩:=zCw (B:=B) (live:=live) (g:=a) (n:=fr+(j:Int))
      by_cases he:(B.sOne live a (fr+(j:Int))).2=0
      · rw [ht2 he,he] at hone
        have hsn:=zwu acc (B.sOne live a (fr+(j:Int))).1
        simp (disch:=first | omega | assumption | (simp; done) | fail) [-List.all_eq_true,hlt,hcap,hc,hone,hsn,hwr,hacc,zhl,he]
      · rcases ht1 with ht | ht<;>rw [ht] at hone<;>
          simp (disch:=first | omega | assumption | (simp; done) | fail) [-List.all_eq_true,hlt,hcap,hc,hone,zhl,he]<;>rfl
  · rintro again acc hacc
    dsimp only [zbI,st]
    have hfe:fr+(((en - fr).toNat:Nat):Int)=en:=by omega
    simp [-List.all_eq_true,-Int.ofNat_toNat,hfe,zgl]
theorem zEm {data:List (List Int)} (h:data.all (fun x=>decide (x.length=32))=true) {i:Nat} (hi:i < data.length):(data.getD i []).length=32:=by
  have:=List.all_eq_true.1 h _ (zj1 hi)
  simpa using this
theorem zjP (h:At T0 T1 b idx B) (hw:B.w≤900000) (tg:Tag) (live:List Bool) (a to:Geo) (k:Int) (tg2:Tag) {data:List (List Int)} (hn:data.length < 100000) (hs:∀ x∈data,x.length=32→Sec x):
    zbg [.h kB b 0,.sl tg (live.map D.bool),.agg [.int .i64 a.l,.int .i64 a.d,.int .i64 a.c],.agg [.int .i64 to.l,.int .i64 to.d,.int .i64 to.c],.int .i64 k,.sl tg2 (pL (fP data))] [P0 T0 b idx B,P1 T1 idx B]=
      some (Ans.mk (.int .i64 (B.wWrite live a to k data).1) [] [P0 T0 b idx (B.wWrite live a to k data).2,P1 T1 idx (B.wWrite live a to k data).2]):=by
  rw [znh,zfM,zcZ]
  have hlm:(fP data).map (fun x=>(zbU x.1 x.2,x.2))=data.map fun x=>(zbU .fresh x,x):=by unfold fP; rw [List.map_map]; rfl
  rw [hlm]
  generalize hQ:(data.map fun x=>(zbU .fresh x,x))=Q
  have hql:Q.length=data.length:=by rw [←hQ]; simp
  have hqg:∀ {i:Nat},i < data.length→(pL Q)[i]? =some (.sl (zbU .fresh (data.getD i [])) (uL (data.getD i []))):=by
    intro i hi
    refine zdQ (?_:Q[i]? =some (zbU .fresh (data.getD i []),data.getD i []))
    rw [←hQ,List.getElem?_map,List.getD_eq_getElem?_getD,List.getElem?_eq_getElem hi]; rfl
  unfold zg5 Ben.wWrite
  have hm:=window_may a to k
  have hsp:=zrr a to k
  cases hmw:mayW a to k
  · rw [hmw] at hm
    simp [hm,hsp]
  rw [hmw] at hm
  obtain ⟨k0,k1⟩:=zfH.1 hmw
  have hW:=zum k0 k1
  have hs0:=hW.s0
  have hss:=hW.ss
  have hmm:=hW.m
  have hse:=hW.se
  have hyw:=zce hW.yok
  have hyc:to.cap=to.width*16:=rfl
  have hwd:IntKind.i64.wrap ((zbf a to k).2 - (zbf a to k).1)=(zbf a to k).2 - (zbf a to k).1:=zah (by omega) (by omega)
  by_cases hl:(data.length:Int)=(zbf a to k).2 - (zbf a to k).1
  rotate_left
  · rw [if_pos (.inr (.inl hl))]
    have hl':¬ (Q.length:Int)=(zbf a to k).2 - (zbf a to k).1:=by rw [hql]; exact hl
    simp [hm,hsp,hwd,hl']
  have hl':(Q.length:Int)=(zbf a to k).2 - (zbf a to k).1:=by rw [hql]; exact hl
  simp (disch:=first | omega | assumption | (simp; done) | fail) only [zbI,hm,hsp,zad,zcl,Bool.not_true,zaw,zdN,zpU,zbp,zaZ,hwd,zuh,hl',zlR]
  let st:Nat→(Nat×List D×Int×List D×(Int×Int×Int×PUnit)×(Int×Int×Int×PUnit)×Int×List D×Int×Int×PUnit)×List (List D)×List (List D)×PUnit:=fun j=>
    ((b,live.map D.bool,k,pL Q,(a.l,a.d,a.c,PUnit.unit),(to.l,to.d,to.c,PUnit.unit),(zbf a to k).1,pL Q,(zbf a to k).2 - (zbf a to k).1,(j:Int),PUnit.unit),P0 T0 b idx B,P1 T1 idx B,PUnit.unit)
  show zcs _ (st 0)=_
  refine zfK (fun x=>data.length - x.1.2.2.2.2.2.2.2.2.2.1.toNat) (fun _=>_) (fun x=>∃ j:Nat,j≤data.length∧(∀ i,i < j→(data.getD i []).length=32)∧x=st j) ?_ ⟨0,by omega,fun i hi=>by omega,rfl⟩ (by simp [st]; omega)
  rintro again _ ⟨j,hj,hall,rfl⟩ hag
  dsimp only [zbI,st]
  by_cases hlt:j < data.length
  · have hlt':(j:Int) < (zbf a to k).2 - (zbf a to k).1:=by omega
    have hg:=hqg hlt
    by_cases h32:(data.getD j []).length=32
    · have:=hag (st (j+1)) ⟨j+1,by omega,fun i hi=>by
        by_cases e:i=j
        · subst e; exact h32
        · exact hall i (by omega),rfl⟩ (by simp [st]; omega)
      dsimp only [zbI,st] at this
      rw [show ((j+1:Nat):Int)=(j:Int)+1 by omega] at this
      have h32':((uL (data.getD j [])).length:Int)=32:=by rw [zfl]; omega
      simp only [zbI,decide_eq_true hlt',za6,zae (show (0:Int)≤(j:Int) by omega),Int.toNat_natCast,zaq hg,zf0,h32',zlR,zaZ,zah (show (-9223372036854775808:Int)≤(j:Int)+1 by omega) (by omega)]
      exact this
    · have hnall:data.all (fun x=>decide (x.length=32))=false:=by
        rw [List.all_eq_false]
        exact ⟨_,zj1 hlt,by simpa using h32⟩
      have h32':¬ ((uL (data.getD j [])).length:Int)=32:=by rw [zfl]; omega
      rw [if_pos (.inr (.inr hnall))]
      simp only [zbI,decide_eq_true hlt',za6,zae (show (0:Int)≤(j:Int) by omega),Int.toNat_natCast,zaq hg,zf0]
      rw [zAY h32']
  · have hje:j=data.length:=by omega
    subst hje
    have hall':data.all (fun x=>decide (x.length=32))=true:=by
      rw [List.all_eq_true]
      intro x hx
      obtain ⟨i,hi,rfl⟩:=List.mem_iff_getElem.1 hx
      have:=hall i hi
      rw [List.getD_eq_getElem?_getD,List.getElem?_eq_getElem hi] at this
      simpa using this
    rw [if_neg (by rintro (e | e | e)<;>first | cases e | exact e hl | (rw [hall'] at e; cases e))]
    have hnl:¬ (data.length:Int) < (zbf a to k).2 - (zbf a to k).1:=by omega
    have hro:=zxl a to
    have hr0:=hW.r0
    have hr1:=hW.r1
    have hrr:=hW.rr
    have hrw:=hW.r
    have hwk:IntKind.i64.wrap (k*zaQ a to)=k*zaQ a to:=zah (by omega) (by omega)
    simp only [zbI,decide_eq_false hnl,zaw,hro,zad,zbp,zaZ,hwk]
    have hk16:k < 16:=by rcases hrw with e | e | e<;>rw [e] at hr1 hr0<;>omega
    let s2:Nat→Ben→(Nat×List D×Int×List D×(Int×Int×Int×PUnit)×Int×Int×Int×PUnit)×List (List D)×List (List D)×PUnit:=fun j B'=>
      ((b,live.map D.bool,k,pL Q,(to.l,to.d,to.c,PUnit.unit),(zbf a to k).1,zaQ a to,k*zaQ a to+j,PUnit.unit),P0 T0 b idx B',P1 T1 idx B',PUnit.unit)
    have hs2:s2 0 B=((b,live.map D.bool,k,pL Q,(to.l,to.d,to.c,PUnit.unit),(zbf a to k).1,zaQ a to,k*zaQ a to,PUnit.unit),P0 T0 b idx B,P1 T1 idx B,PUnit.unit):=by
      simp only [zbI,s2,Int.natCast_zero,Int.add_zero]
    rw [←hs2]
    have hrr':(if (B.wRows live a to k data).1=0 then (B.wRows live a to k data).2.sFlush live else B.wRows live a to k data)=(fun y:Int×Ben=>if y.1=0 then y.2.sFlush live else y) (B.wRows live a to k data):=rfl
    rw [hrr']
    unfold Ben.wRows
    have hRow:∀ r:Int,k*zaQ a to≤r→r < (k+1)*zaQ a to→Row to (rowW a to k data r)∧zcM to r=true:=by
      intro r r0 r1
      refine ⟨⟨by simp [rowW]; omega,fun x hx=>?_⟩,zb2.2 ⟨hW.yok,by omega,by omega⟩⟩
      obtain ⟨j,hj,rfl⟩:=List.mem_map.1 hx
      have hj:=List.mem_range.1 hj
      obtain ⟨n0,n1⟩:=zsM hW r0 r1 (j:=(j:Int)) (by omega) (by omega)
      have hi:(numP to r j - (zbf a to k).1).toNat < data.length:=by omega
      exact hs _ (zj1 hi) (zEm hall' hi)
    refine zlT (fun j B'=>B'.sWrite live to (k*zaQ a to+j) (rowW a to k data (k*zaQ a to+j))) (fun j B'=>Nx (8*j) B B') s2 (fun y=>some (Ans.mk (.int .i64 (if y.1=0 then y.2.sFlush live else y).1) [] [P0 T0 b idx (if y.1=0 then y.2.sFlush live else y).2,P1 T1 idx (if y.1=0 then y.2.sFlush live else y).2])) (zaQ a to).toNat (by omega) (.rfl' h.ok (by omega)) ?_ ?_ ?_
    · rintro i B' hi hx he
      obtain ⟨hR,hr⟩:=hRow (k*zaQ a to+i) (by omega) (by omega)
      exact (hx.trans (zzo hx.ok hr hR)).mono (by omega)
    · rintro again i B' hi hx
      dsimp only [zbI,s2]
      have hA:=h.nx hx
      have hxw:=hx.w
      obtain ⟨hR,hr⟩:=hRow (k*zaQ a to+i) (by omega) (by omega)
      have hsw:=znK hA (by omega) .lent live to (k*zaQ a to+i) .lent (ps:=(rowW a to k data (k*zaQ a to+i)).map fun x=>(zbU .fresh x,x)) (by simp [rowW]; omega) (by intro x hx; obtain ⟨y,hy,rfl⟩:=List.mem_map.1 hx; exact hR.sec y hy)
      have hsnd:((rowW a to k data (k*zaQ a to+i)).map fun x=>(zbU .fresh x,x)).map (·.2)=rowW a to k data (k*zaQ a to+i):=by rw [List.map_map]; exact List.map_id _
      rw [hsnd] at hsw
      have hwk1:IntKind.i64.wrap (k+1)=k+1:=zah (by omega) (by omega)
      have hwk2:IntKind.i64.wrap ((k+1)*zaQ a to)=(k+1)*zaQ a to:=zah (by omega) (by omega)
      have hlt:k*zaQ a to+(i:Int) < (k+1)*zaQ a to:=by omega
      have hnums:=zpT to (k*zaQ a to+i)
      have hnd:zuW to (k*zaQ a to+i)=numD to (k*zaQ a to+i) to.width.toNat:=by unfold zuW; rw [if_pos hr]
      rw [hnd] at hnums
      simp (disch:=first | omega | assumption | (simp; done) | fail) only [zbI,zaZ,hwk1,hwk2,decide_eq_true hlt,za6,hnums,zad,zbH,zae,Nat.zero_add,Nat.le_refl,zh0]
      have hwi:IntKind.i64.wrap (k*zaQ a to+(i:Int)+1)=k*zaQ a to+((i+1:Nat):Int):=by rw [zah (by omega) (by omega)]; omega
      generalize hr':k*zaQ a to+(i:Int)=r at*
      let s3:Nat→(Nat×List D×Int×List D×(Int×Int×Int×PUnit)×Int×Int×Int×List D×List D×Int×Int×PUnit)×List (List D)×List (List D)×PUnit:=fun j=>
        ((b,live.map D.bool,k,pL Q,(to.l,to.d,to.c,PUnit.unit),(zbf a to k).1,zaQ a to,r,pL ((((List.range j).map fun (j:Nat)=>data.getD (numP to r j - (zbf a to k).1).toNat [])).map fun x=>(zbU .fresh x,x)),numD to r to.width.toNat,((to.width.toNat:Nat):Int),(j:Int),PUnit.unit),P0 T0 b idx B',P1 T1 idx B',PUnit.unit)
      show zcs _ (s3 0)=_
      refine zdV s3 to.width.toNat (by omega) ?_ ?_
      · intro again j hj
        dsimp only [zbI,s3]
        obtain ⟨n0,n1⟩:=zsM hW (r:=r) (by omega) (by omega) (j:=(j:Int)) (by omega) (by omega)
        have hi:(numP to r j - (zbf a to k).1).toNat < data.length:=by omega
        have hg:=hqg hi
        have hgn:(numD to r to.width.toNat)[j]? =some (.int .i64 (numP to r j)):=zsb to r to.width.toNat (by omega)
        have hlt:(j:Int) < ((to.width.toNat:Nat):Int):=by omega
        have hwn:IntKind.i64.wrap (numP to r j - (zbf a to k).1)=numP to r j - (zbf a to k).1:=zah (by omega) (by omega)
        have hsucc:pL ((((List.range j).map fun (j:Nat)=>data.getD (numP to r j - (zbf a to k).1).toNat [])).map fun x=>(zbU .fresh x,x))++[D.sl (zbU .fresh (data.getD (numP to r j - (zbf a to k).1).toNat [])) (uL (data.getD (numP to r j - (zbf a to k).1).toNat []))]=
          pL ((((List.range (j+1)).map fun (j:Nat)=>data.getD (numP to r j - (zbf a to k).1).toNat [])).map fun x=>(zbU .fresh x,x)):=by
          rw [List.range_succ]; simp [pL]
        simp (disch:=first | omega | assumption | (simp; done) | fail) only [zbI,decide_eq_true hlt,za6,zae,Int.toNat_natCast,Nat.zero_add,zaq hgn,zbp,zaZ,hwn,zaq hg,zf0,hsucc,zah,List.length_append,List.length_cons,List.length_nil,zh0,zuh,List.length_map,List.length_range]
        rw [show ((j+1:Nat):Int)=(j:Int)+1 by omega]
      · intro again
        dsimp only [zbI,s3]
        have hnl2:¬ ((to.width.toNat:Nat):Int) < ((to.width.toNat:Nat):Int):=by omega
        have hcut:∀ l:List D,cut 0 l.length l=l:=fun l=>znj rfl
        have hrw:((List.range to.width.toNat).map fun (j:Nat)=>data.getD (numP to r j - (zbf a to k).1).toNat [])=rowW a to k data r:=rfl
        rw [hrw]
        simp only [zbI,decide_eq_false hnl2,zaw]
        rw [zae (by omega),hcut]
        refine Eq.trans (congrArg (fun x=>zan x _) hsw) ?_
        simp only [zbI,zad,zcy,zdA,zbp]
        by_cases he:(B'.sWrite live to r (rowW a to k data r)).1=0
        · rw [he,zlR rfl,if_pos rfl,zaZ,hwi]
        · rw [zAY he,if_neg he,if_neg he]
    · rintro again B' hx
      dsimp only [zbI,s2]
      have hA:=h.nx hx
      have hxw:=hx.w
      have hsf:=znL hA (by omega) .lent live
      have hp:P0 T0 b idx (B'.sFlush live).2=P0 T0 b idx B':=zzn _ _ (zzk B' live)
      have hwk1:IntKind.i64.wrap (k+1)=k+1:=zah (by omega) (by omega)
      have hwk2:IntKind.i64.wrap ((k+1)*zaQ a to)=(k+1)*zaQ a to:=zah (by omega) (by omega)
      have hnl:¬ k*zaQ a to+(((zaQ a to).toNat:Nat):Int) < (k+1)*zaQ a to:=by omega
      simp only [zbI,zaZ,hwk1,hwk2,decide_eq_false hnl,zaw,hsf,zad,zcy,zdA,zbp,if_true,hp]
end
end Wf

namespace Wf
open Go Go.RowKit Go.Proofs
set_option linter.unusedSimpArgs false
set_option linter.unusedVariables false
set_option maxHeartbeats 4000000
theorem zrs {σ:Type} {f g:Nat→σ→Int×σ} (I:Nat→σ→Prop):∀ (n k:Nat) (s:σ),I k s→(∀ j s,k≤j→j < k+n→I j s→f j s=g j s)→(∀ j s,k≤j→j < k+n→I j s→(f j s).1=0→I (j+1) (f j s).2)→runE f k n s=runE g k n s
  | 0,k,s,_,_,_=>rfl
  | n+1,k,s,hI,h1,h2=>by
    unfold runE
    have e:=h1 k s (by omega) (by omega) hI
    have h3:=h2 k s (by omega) (by omega) hI
    rw [←e]
    by_cases h0:(f k s).1=0
    · rw [if_pos h0,if_pos h0]
      exact zrs I n (k+1) _ (h3 h0) (fun j s a b=>h1 j s (by omega) (by omega)) fun j s a b=>h2 j s (by omega) (by omega)
    · rw [if_neg h0,if_neg h0]
section
variable {B B':Ben} {live:List Bool}
theorem Like.wActs (h:Like B B') (g:Geo) (r:Int) (data:List (List Int)):B'.wActs live g r data=B.wActs live g r data:=by
  unfold Ben.wActs
  simp only [h.up]
theorem Like.fActs (h:Like B B'):B'.fActs live=B.fActs live:=by
  unfold Ben.fActs
  have:B'.ds.length=B.ds.length:=by have:=h.1; unfold Ben.n at this; omega
  rw [this]
  simp only [h.up]
theorem zun {as':List Act} (h:Does B as'):Like B (does B as'):=⟨h.nx.n,h.failed⟩
theorem zxm {g:Geo} {r:Int} {data:List (List Int)} {e b:Int} (e0:0≤e) (c:Int→Int→List Int):
    curs c (B.wActs live g r data) e b=if b=36+r∧e < g.d∧B.up live e=true then atR g r data e else c e b:=by
  by_cases hc:b=36+r∧e < g.d∧B.up live e=true
  · rw [if_pos hc,hc.1]
    have:=ztV (B:=B) (live:=live) (g:=g) (r:=r) (data:=data) (d:=e.toNat) (by omega) (by rw [show ((e.toNat:Nat):Int)=e by omega]; exact hc.2.2) c
    rw [show ((e.toNat:Nat):Int)=e by omega] at this
    exact this
  · rw [if_neg hc]
    refine zhr (fun a ha=>?_) _
    unfold Ben.wActs at ha
    obtain ⟨d,hd,ha⟩:=List.mem_flatMap.1 ha
    have hd:=List.mem_range.1 hd
    split at ha
    · rename_i hu
      rw [List.mem_singleton.1 ha]
      unfold Act.at
      dsimp only
      rw [decide_eq_false_iff_not]
      rintro ⟨rfl,rfl⟩
      exact hc ⟨rfl,by omega,hu⟩
    · cases ha
theorem zxn {e b:Int} (c:Int→Int→List Int):curs c (B.fActs live) e b=c e b:=zhr (zwj e b) c
def Act.d:Act→Int
  | .w d _ _=>d
  | .f d=>d
theorem zzp {e:Int} (e0:0≤e):∀ (l:List Act) {B:Ben},B.Ok→(∀ a∈l,a.Ok B)→(∀ a∈l,a.d≠e)→(does B l).nP e=B.nP e
  | [],B,_,_,_=>rfl
  | a::l,B,hB,h1,h2=>by
    have ha:=h1 a (List.mem_cons_self ..)
    show (does (B.does1 a) l).nP e=_
    rw [zzp e0 l (zj2 hB ha).ok (fun c hc=>zog hB ha (h1 c (List.mem_cons_of_mem _ hc))) fun c hc=>h2 c (List.mem_cons_of_mem _ hc),zws ha e0]
    have:=h2 a (List.mem_cons_self ..)
    cases a with
    | w d a x=>exact if_neg (fun q=>this q.symm)
    | f d=>exact if_neg (fun q=>this q.symm)
theorem zCx {g:Geo} {r:Int} {data:List (List Int)}:∀ a∈B.wActs live g r data,B.up live a.d=true∧0≤a.d∧a.d < g.d:=fun a ha=>by
  unfold Ben.wActs at ha
  obtain ⟨d,hd,ha⟩:=List.mem_flatMap.1 ha
  have hd:=List.mem_range.1 hd
  split at ha
  · rename_i hu
    rw [List.mem_singleton.1 ha]
    exact ⟨hu,by show (0:Int)≤(d:Int); omega,by show (d:Int) < _; omega⟩
  · cases ha
theorem zCy {l:List Act} (hB:B.Ok) (hd:B.down=false) (hD:Does B l) (hok:∀ a∈l,a.Ok B) (hup:∀ a∈l,B.up live a.d=true) {e:Int} (e0:0≤e):
    (does B (l++B.fActs live)).nP e=if B.up live e=true then 0 else B.nP e:=by
  rw [zpj,←(zun hD).fActs,zAM (zzl hB hok).1 e0,(zun hD).up]
  by_cases hu:B.up live e=true
  · rw [if_pos hu,if_pos hu]
  · rw [if_neg hu,if_neg hu]
    exact zzp e0 l hB hok fun a ha q=>hu (by rw [←q]; exact hup a ha)
end
section
variable {a to:Geo} {k:Int} {data:List (List Int)}
structure WinD (a to:Geo) (k:Int) (data:List (List Int)):Prop where
  k0:0≤k
  k1:k < winP a to
  len:(data.length:Int)=(zbf a to k).2 - (zbf a to k).1
  sec:∀ x∈data,Sec x
theorem WinD.win (h:WinD a to k data):Win a to k:=zum h.k0 h.k1
theorem WinD.row (h:WinD a to k data) {r:Int} (r0:k*zaQ a to≤r) (r1:r < (k+1)*zaQ a to):Row to (rowW a to k data r)∧zcM to r=true:=by
  have hW:=h.win
  have:=hW.r0
  have:=hW.r1
  have hyw:=zce hW.yok
  have hl:=h.len
  refine ⟨⟨by simp [rowW]; omega,fun x hx=>?_⟩,zb2.2 ⟨hW.yok,by omega,by omega⟩⟩
  obtain ⟨j,hj,rfl⟩:=List.mem_map.1 hx
  have hj:=List.mem_range.1 hj
  obtain ⟨n0,n1⟩:=zsM hW r0 r1 (j:=(j:Int)) (by omega) (by omega)
  exact h.sec _ (zj1 (by omega))
def Ben.wwA (B:Ben) (live:List Bool) (a to:Geo) (k:Int) (data:List (List Int)) (m:Nat):List Act:=
  (List.range m).flatMap fun (j:Nat)=>B.wActs live to (k*zaQ a to+j) (rowW a to k data (k*zaQ a to+j))
def Ben.wwActs (B:Ben) (live:List Bool) (a to:Geo) (k:Int) (data:List (List Int)):List Act:=B.wwA live a to k data (zaQ a to).toNat++B.fActs live
variable {B:Ben} {live:List Bool}
theorem zvp (h:WinD a to k data) {x:Act} (hx:x∈B.wwA live a to k data (zaQ a to).toNat):∃ r:Int,k*zaQ a to≤r∧r < (k+1)*zaQ a to∧x∈B.wActs live to r (rowW a to k data r):=by
  obtain ⟨j,hj,hx⟩:=List.mem_flatMap.1 hx
  have hj:=List.mem_range.1 hj
  have:=h.win.rr
  exact ⟨k*zaQ a to+j,by omega,by omega,hx⟩
theorem zzq (h:WinD a to k data):∀ x∈B.wwActs live a to k data,x.Ok B:=fun x hx=>by
  rcases List.mem_append.1 hx with hx | hx
  · obtain ⟨r,r0,r1,hx⟩:=zvp h hx
    obtain ⟨hR,hr⟩:=h.row r0 r1
    exact zwi hr hR x hx
  · exact zse x hx
theorem zzr (h:WinD a to k data):nW (B.wwActs live a to k data)≤32:=by
  have hW:=h.win
  have hd:=ok_d hW.yok
  have:∀ m:Nat,nW (B.wwA live a to k data m)≤8*m:=by
    intro m
    induction m with
    | zero=>simp [nW,Ben.wwA]
    | succ m ih=>
      unfold Ben.wwA at ih ⊢
      rw [List.range_succ,List.flatMap_append,zpk]
      simp only [List.flatMap_cons,List.flatMap_nil,List.append_nil]
      have:=zol B live to (k*zaQ a to+m) (rowW a to k data (k*zaQ a to+m))
      omega
  have h2:=this (zaQ a to).toNat
  unfold Ben.wwActs
  rw [zpk,zom]
  rcases hW.r with e | e | e<;>rw [e] at h2 ⊢<;>simp at h2 ⊢<;>omega
theorem zvq (hB:B.Ok) (h:WinD a to k data):B.wWrite live a to k data=runA (B.wwActs live a to k data) B:=by
  have hW:=h.win
  have hl:=h.len
  have hrr:=hW.rr
  unfold Ben.wWrite
  rw [if_neg (by
    rintro (e | e | e)
    · rw [zfH.2 ⟨h.k0,h.k1⟩] at e; cases e
    · exact e hl
    · rw [List.all_eq_true.2 (fun x hx=>by simpa using (h.sec x hx).len)] at e; cases e)]
  have hrows:B.wRows live a to k data=runA (B.wwA live a to k data (zaQ a to).toNat) B:=by
    unfold Ben.wRows Ben.wwA
    rw [zrs (g:=fun j B'=>runA (B.wActs live to (k*zaQ a to+(j:Nat)) (rowW a to k data (k*zaQ a to+(j:Nat)))) B') (fun _ B'=>B'.Ok∧Like B B') _ _ _ ⟨hB,.refl B⟩ ?_ ?_,zmt,List.range_eq_range']
    · rintro j B' _ hj ⟨hB',hL⟩
      obtain ⟨hR,hr⟩:=h.row (r:=k*zaQ a to+(j:Nat)) (by omega) (by omega)
      unfold Ben.sWrite
      rw [zlW hr hR,if_neg (by simp),hL.wActs]
    · rintro j B' _ hj ⟨hB',hL⟩ _
      obtain ⟨hR,hr⟩:=h.row (r:=k*zaQ a to+(j:Nat)) (by omega) (by omega)
      unfold Ben.sWrite
      rw [zlW hr hR,if_neg (by simp)]
      obtain ⟨h1,h2⟩:=zsN _ hB' (zpW (B:=B') (live:=live) hr hR)
      exact ⟨h1.ok,hL.trans h2⟩
  rw [hrows]
  unfold Ben.wwActs
  rw [zkT]
  obtain ⟨h1,h2⟩:=zsN (B.wwA live a to k data (zaQ a to).toNat) hB (fun x hx=>by
    obtain ⟨r,r0,r1,hx⟩:=zvp h hx
    obtain ⟨hR,hr⟩:=h.row r0 r1
    exact zpW hr hR x hx)
  unfold Ben.sFlush
  rw [h2.fActs]
theorem zvr (h:WinD a to k data) {e b:Int} (e0:0≤e) (c:Int→Int→List Int):
    curs c (B.wwActs live a to k data) e b=if k*zaQ a to≤b - 36∧b - 36 < (k+1)*zaQ a to∧e < to.d∧B.up live e=true then atR to (b - 36) (rowW a to k data (b - 36)) e else c e b:=by
  have hW:=h.win
  have hrr:=hW.rr
  unfold Ben.wwActs
  rw [zkU,zxn]
  have key:∀ m:Nat,curs c (B.wwA live a to k data m) e b=if k*zaQ a to≤b - 36∧b - 36 < k*zaQ a to+m∧e < to.d∧B.up live e=true then atR to (b - 36) (rowW a to k data (b - 36)) e else c e b:=by
    intro m
    induction m with
    | zero=>rw [if_neg (by omega)]; rfl
    | succ m ih=>
      unfold Ben.wwA at ih ⊢
      rw [List.range_succ,List.flatMap_append,zkU]
      simp only [List.flatMap_cons,List.flatMap_nil,List.append_nil]
      rw [zxm e0,ih]
      by_cases hb:b=36+(k*zaQ a to+m)
      · by_cases hc:e < to.d∧B.up live e=true
        · rw [if_pos ⟨hb,hc⟩,if_pos ⟨by omega,by omega,hc⟩,show b - 36=k*zaQ a to+m by omega]
        · rw [if_neg (fun q=>hc q.2),if_neg (fun q=>hc q.2.2),if_neg (fun q=>hc q.2.2)]
      · rw [if_neg (fun q=>hb q.1)]
        by_cases hc:k*zaQ a to≤b - 36∧b - 36 < k*zaQ a to+m∧e < to.d∧B.up live e=true
        · rw [if_pos hc,if_pos ⟨hc.1,by omega,hc.2.2⟩]
        · rw [if_neg hc,if_neg (fun q=>hc ⟨q.1,by omega,q.2.2⟩)]
  rw [key]
  have:k*zaQ a to+((zaQ a to).toNat:Int)=(k+1)*zaQ a to:=by rcases hW.r with e | e | e<;>omega
  rw [this]
end
section
variable {U V:Tb} {b:Nat} {idx:List Nat} {B:Ben} {n:Nat} {K:Int}
theorem Run.win (h:Run U V b idx B n K) (hK:K≤800000) (tg:Tag) (live:List Bool) {a to:Geo} {k:Int} (tg2:Tag) {data:List (List Int)} (hD:WinD a to k data):∃ B1,
    zbg [.h kB b 0,.sl tg (live.map D.bool),.agg [.int .i64 a.l,.int .i64 a.d,.int .i64 a.c],.agg [.int .i64 to.l,.int .i64 to.d,.int .i64 to.c],.int .i64 k,.sl tg2 (pL (fP data))] [P0 U b idx B,P1 V idx B]=some (Ans.mk (.int .i64 0) [] [P0 U b idx B1,P1 V idx B1])∧
    Run U V b idx B1 n (K+32)∧(∀ e,B1.failed e=B.failed e)∧B1=does B (B.wwActs live a to k data)∧
    (∀ e x:Int,0≤e→0≤x→x < 52→B1.cur e x=if k*zaQ a to≤x - 36∧x - 36 < (k+1)*zaQ a to∧e < to.d∧B.up live e=true then atR to (x - 36) (rowW a to k data (x - 36)) e else B.cur e x)∧
    (∀ e:Int,0≤e→B1.nP e=if B.up live e=true then 0 else B.nP e):=by
  have hw:=h.w
  have hl:=hD.len
  have hm:=hD.win.m
  have hss:=hD.win.ss
  have hww:=zjP h.at' (by omega) tg live a to k tg2 (data:=data) (by omega) (fun x hx _=>hD.sec x hx)
  have hok:=zzq (B:=B) (live:=live) hD
  have hDo:=zlV (B.wwActs live a to k data) h.at'.ok h.down hok (.inl (by rw [h.left]; omega))
  rw [zvq h.at'.ok hD,hDo.run] at hww
  have hn:=zzr (B:=B) (live:=live) hD
  have hnx:=hDo.nx.w
  refine ⟨_,hww,⟨h.at'.nx hDo.nx,hDo.nx.n.trans h.num,hDo.down.trans h.down,by rw [hDo.left,h.left]; rfl,by show (does B (B.wwActs live a to k data)).w≤K+32; omega⟩,hDo.failed,rfl,fun e x e0 x0 x1=>?_,fun e e0=>?_⟩
  · rw [hDo.cur e x e0 x0 x1,zvr hD e0]
  · have hDo2:=zlV (B.wwA live a to k data (zaQ a to).toNat) h.at'.ok h.down (fun x hx=>hok x (List.mem_append_left _ hx)) (.inl (by rw [h.left]; omega))
    exact zCy h.at'.ok h.down hDo2 (fun x hx=>hok x (List.mem_append_left _ hx)) (fun x hx=>by
      obtain ⟨r,r0,r1,hx⟩:=zvp hD hx
      exact (zCx x hx).1) e0
theorem zzs (T0 T1:Tb) {n:Nat} (h0:1≤n) (h8:n≤8):∃ U V idx,
    zbl [.int .i64 n] [T0,T1]=some (Ans.mk (.tup [.h kB T0.length 0,.int .i64 0]) [] [P0 U T0.length idx (Ben.new n),P1 V idx (Ben.new n)])∧
    Run U V T0.length idx (Ben.new n) n 0∧Still (Ben.new n):=
  ⟨_,_,_,zEl T0 T1 h0 h8,⟨zDF T0 T1 h8,by simp [Ben.new,Ben.n],rfl,rfl,Int.le_refl _⟩,zzf h8⟩
theorem zzt {live:List Bool} {a to:Geo} {k:Int} (k0:0≤k) (k1:k < winP a to) (v:Int→List Int) (hv:∀ m,(zbf a to k).1≤m→m < (zbf a to k).2→B.wOne live a m=(v m,0)):
    B.wRead live a to k=((List.range ((zbf a to k).2 - (zbf a to k).1).toNat).map fun (j:Nat)=>v ((zbf a to k).1+j),0):=by
  have key:∀ (m j:Nat) (acc:List (List Int)),j+m=((zbf a to k).2 - (zbf a to k).1).toNat→runE (B.wStep live a (zbf a to k).1) j m acc=(0,acc++(List.range' j m).map fun (j:Nat)=>v ((zbf a to k).1+j)):=by
    intro m
    induction m with
    | zero=>intro j acc _; simp [runE]
    | succ m ih=>
      intro j acc hj
      have h1:=hv ((zbf a to k).1+j) (by omega) (by omega)
      have:B.wStep live a (zbf a to k).1 j acc=(0,acc++[v ((zbf a to k).1+j)]):=by unfold Ben.wStep; rw [h1,if_pos rfl]
      unfold runE
      rw [this,if_pos rfl,ih (j+1) _ (by omega),List.range'_succ]
      simp
  unfold Ben.wRead Ben.wGo
  rw [zfH.2 ⟨k0,k1⟩,if_neg (by simp),key _ 0 [] (by omega),List.range_eq_range']
  simp
end
end Wf

namespace Wf
open Go Go.RowKit Go.Proofs
set_option linter.unusedSimpArgs false
set_option linter.unusedVariables false
set_option maxHeartbeats 4000000
theorem zCz:zaN []=some (.bool true):=by
  have e:=ziV
  rw [e,zae (by rfl)]
  unfold zd4
  obtain ⟨U,V,idx,hnew,hB,hS⟩:=zzs [] [] (n:=4) (by omega) (by omega)
  have hrd:=zlq hB.at' (by have:=hB.w; omega) .full [true,true,true,true] ⟨5,3,1⟩ ⟨5,4,1⟩ 15
  have hx:=zzt (B:=Ben.new 4) (live:=[true,true,true,true]) (a:=⟨5,3,1⟩) (to:=⟨5,4,1⟩) (k:=15) (by omega) (by decide) (fun _=>zfA) (fun m m0 m1=>by
    have h45:(zbf ⟨5,3,1⟩ ⟨5,4,1⟩ 15).1=45:=by decide
    rw [h45] at m0
    unfold Ben.wOne
    rw [if_pos (by show (32:Int)≤m; omega)])
  rw [hx] at hrd
  have hl:(List.range ((zbf ⟨5,3,1⟩ ⟨5,4,1⟩ 15).2 - (zbf ⟨5,3,1⟩ ⟨5,4,1⟩ 15).1).toNat).map (fun (j:Nat)=>zfA)=[zfA,zfA,zfA]:=by
    rw [show ((zbf ⟨5,3,1⟩ ⟨5,4,1⟩ 15).2 - (zbf ⟨5,3,1⟩ ⟨5,4,1⟩ 15).1).toNat=3 by decide]; rfl
  rw [hl] at hrd
  have hrd':zaR [.h kB 0 0,.sl .full [.bool true,.bool true,.bool true,.bool true],.agg [.int .i64 5,.int .i64 3,.int .i64 1],.agg [.int .i64 5,.int .i64 4,.int .i64 1],.int .i64 15] [P0 U 0 idx (Ben.new 4),P1 V idx (Ben.new 4)]=some (Ans.mk (.tup [.sl .own (pL (fP [zfA,zfA,zfA])),.int .i64 0]) [] []):=hrd
  have hp:pL (fP [zfA,zfA,zfA])=[.sl .fresh (uL zfA),.sl .fresh (uL zfA),.sl .fresh (uL zfA)]:=rfl
  rw [hp] at hrd'
  have hs:=zyU .fresh .lent zfA zfA (by decide)
  have hnew':zbl [.int .i64 4] [[],[]]=some (Ans.mk (.tup [.h kB 0 0,.int .i64 0]) [] [P0 U 0 idx (Ben.new 4),P1 V idx (Ben.new 4)]):=hnew
  simp [hnew',hrd',zhl,hs,zwt]
end Wf

namespace Wf
open Go Go.RowKit Go.Proofs
set_option linter.unusedVariables false
set_option maxRecDepth 100000
def zdd:Ann:={ loops:=[(1,[.dead,.dead,.dead,.val (.cell (.int .i64)),.dead,.dead,.dead,.dead,.dead,.box true [(.int .i64),(.int .i64),(.int .i64)],.box true [(.int .i64),(.int .i64),(.int .i64)],.ptr 3840,.dead,.own 1,.dead,.val (.cell (.int .i64)),.val (.cell (.int .i64)),.dead,.dead,.dead,.dead,.dead,.dead,.dead,.dead,.dead,.dead,.dead,.dead,.dead,.dead,.dead,.dead,.dead,.dead,.dead,.dead,.dead,.dead,.dead,.dead,.dead,.dead,.dead,.dead,.dead,.dead,.dead,.dead,.dead,.dead,.dead,.dead,.dead,.dead,.dead,.dead,.dead,.dead,.dead,.dead,.dead,.dead,.dead,.val (.cell .sl),.val (.cell (.int .i64)),.val (.cell (.int .i64))])],ks:=[(3840,true),(7649,true)] }
noncomputable def zcC:List D→Option D:=denT Try.prog (zav [(ID.wattleplay_Pair,(.pure [0,0] zbr)),(ID.bench_New,(.st [] [0,0] [(3840,true),(7649,true)] zbl)),(ID.wattleplay_Live,(.pure [1] zbs)),(ID.wattleref01_Windows,(.pure [0] zar)),(ID.wattlekeep_Within,(.pure [0] zaa)),(ID.wattleref01_Span,(.pure [0,0] za9)),(ID.window_Read,(.st [] [1,0] [(3840,false),(7649,false)] zaR)),(ID.wattleplay_Sectors,(.pure [1] zaO)),(ID.window_Write,(.st [] [0] [(3840,true),(7649,true)] zbg)),(ID.bench_counter_Writes,(.st [] [0] [(3840,false)] zaK)),(ID.wattleref01_Can,(.pure [0] zaf)),(ID.wattlelaw20_wakes,(.pure [0] zaN))]) zdd [0] ID.wattlelaw20_WindowErrors
theorem sound_wattlelaw20_WindowErrors:za5 Try.prog ID.wattlelaw20_WindowErrors (.pure [0] zcC):=zq4 (zay [zkb,zkw,zkd,zea,zcz,zjI,zix,zij,zng,zg6,zcO,ziU]) zby ⟨Try.f13,by kernel_rfl,by kernel_rfl,by kernel_rfl⟩
noncomputable def zcD (zbr:List D→Option D) (zbl:List D→List Tb→Option Ans) (zbs:List D→Option D) (zar:List D→Option D) (zaa:List D→Option D) (za9:List D→Option D) (zaR:List D→List Tb→Option Ans) (zaO:List D→Option D) (zbg:List D→List Tb→Option Ans) (zaK:List D→List Tb→Option Ans) (zaf:List D→Option D) (zaN:List D→Option D) (a0:Int) (a1:Int) (a2:Int) (a3:Int):Option D:=
  zan (zbr [D.int IntKind.i64 a0,D.int IntKind.i64 a1]) fun r1=>
  zdx r1 fun ts2=>
  zas ([Lf.any,Lf.any]) ts2 fun c3=>
  asAgg c3.fst fun cs4=>
  zas ([Lf.int IntKind.i64,Lf.int IntKind.i64,Lf.int IntKind.i64]) cs4 fun c5=>
  asAgg c3.snd.fst fun cs6=>
  zas ([Lf.int IntKind.i64,Lf.int IntKind.i64,Lf.int IntKind.i64]) cs6 fun c7=>
  zan (zbl [D.int IntKind.i64 c7.snd.fst] [[],[]]) fun r8=>
  nilK r8.outs <|
  zdL r8.tbs fun c9 q10=>
  zdL q10 fun c11 q12=>
  nilK q12 <|
  zdx r8.r fun ts13=>
  zas ([Lf.any,Lf.any]) ts13 fun c14=>
  sif (zhl c14.fst=true) <|
  asI IntKind.i64 c14.snd.fst fun i15=>
  brK (i15 != (0:Int))
    (some (D.bool false))
    (znO c14.fst fun b16=>
    brK b16
      (some (D.bool false))
      (zan (zbs [D.int IntKind.i64 (0:Int),D.int IntKind.i64 c7.snd.fst]) fun r17=>
      zbk r17 fun l18=>
      zan (zar [D.agg [D.int IntKind.i64 c5.fst,D.int IntKind.i64 c5.snd.fst,D.int IntKind.i64 c5.snd.snd.fst],D.agg [D.int IntKind.i64 c7.fst,D.int IntKind.i64 c7.snd.fst,D.int IntKind.i64 c7.snd.snd.fst]]) fun r19=>
      asI IntKind.i64 r19 fun i20=>
      zan (zaa [D.int IntKind.i64 a2,D.int IntKind.i64 (50:Int)]) fun r21=>
      asI IntKind.i64 r21 fun i22=>
      letN (IntKind.wrap IntKind.i64 ((1:Int)+i22)) fun n23=>
      zan (za9 [D.agg [D.int IntKind.i64 c5.fst,D.int IntKind.i64 c5.snd.fst,D.int IntKind.i64 c5.snd.snd.fst],D.agg [D.int IntKind.i64 c7.fst,D.int IntKind.i64 c7.snd.fst,D.int IntKind.i64 c7.snd.snd.fst],D.int IntKind.i64 (0:Int)]) fun r24=>
      zdx r24 fun ts25=>
      zas ([Lf.any,Lf.any]) ts25 fun c26=>
      asI IntKind.i64 c26.fst fun i27=>
      asI IntKind.i64 c26.snd.fst fun i28=>
      letN (IntKind.wrap IntKind.i64 (i20 - (1:Int))) fun n29=>
      letN (IntKind.wrap IntKind.i64 (n29+n23)) fun n30=>
      sif (List.length l18=List.length l18) <|
      zcs (α:=(Int×(Int×Int×Int×PUnit)×(Int×Int×Int×PUnit)×D×List D×Int×Int×(Tag×List D)×Int×Int×PUnit)×List (List D)×List (List D)×PUnit) (fun again31 ((i32,((i33,(i34,(i35,_))),((i36,(i37,(i38,_))),(x39,(l40,(i41,(i42,((t43,l44),(i45,(i46,_)))))))))),(U47,(U48,_)))=>
        brK (decide (i46 < i45))
          (sif ((0:Int)≤i46) <|
          getK l44 (Int.toNat i46) fun d49=>
          asI IntKind.i64 d49 fun i50=>
          sif ((0:Nat)+List.length l40≤List.length l40) <|
          zan (zaR [x39,D.sl Tag.lent (cut (0:Nat) (List.length l40) l40),D.agg [D.int IntKind.i64 i33,D.int IntKind.i64 i34,D.int IntKind.i64 i35],D.agg [D.int IntKind.i64 i36,D.int IntKind.i64 i37,D.int IntKind.i64 i38],D.int IntKind.i64 i50] [U47,U48]) fun r51=>
          nilK r51.outs <|
          nilK r51.tbs <|
          zdx r51.r fun ts52=>
          zas ([Lf.any,Lf.any]) ts52 fun c53=>
          zbk c53.fst fun l54=>
          asI IntKind.i64 c53.snd.fst fun i55=>
          brK (i55 != (1:Int))
            (some (D.bool false))
            (sif ((0:Nat)+List.length l54≤List.length l54) <|
            brK ((↑(List.length l54):Int) != (0:Int))
              (some (D.bool false))
              (letN (IntKind.wrap IntKind.i64 (i42 - i41)) fun n56=>
              zan (zaO [D.sl Tag.nil [],D.int IntKind.i64 n56]) fun r57=>
              zbk r57 fun l58=>
              sif ((0:Nat)+List.length l40≤List.length l40) <|
              sif ((0:Nat)+List.length l58≤List.length l58) <|
              zan (zbg [x39,D.sl Tag.lent (cut (0:Nat) (List.length l40) l40),D.agg [D.int IntKind.i64 i33,D.int IntKind.i64 i34,D.int IntKind.i64 i35],D.agg [D.int IntKind.i64 i36,D.int IntKind.i64 i37,D.int IntKind.i64 i38],D.int IntKind.i64 i50,D.sl Tag.lent (cut (0:Nat) (List.length l58) l58)] [U47,U48]) fun r59=>
              nilK r59.outs <|
              zdL r59.tbs fun c60 q61=>
              zdL q61 fun c62 q63=>
              nilK q63 <|
              asI IntKind.i64 r59.r fun i64=>
              brK (i64 != (1:Int))
                (some (D.bool false))
                (letN (IntKind.wrap IntKind.i64 (i46+(1:Int))) fun n65=>
                sif (List.length l40=List.length l40) <|
                again31 (((i32,(i33,i34,i35,PUnit.unit),(i36,i37,i38,PUnit.unit),x39,l40,i41,i42,(t43,l44),i45,n65,PUnit.unit),c60,c62,PUnit.unit))))))
          (zan (zaa [D.int IntKind.i64 i32,D.int IntKind.i64 (33:Int)]) fun r66=>
          asI IntKind.i64 r66 fun i67=>
          zan (zaO [D.sl Tag.nil [],D.int IntKind.i64 i67]) fun r68=>
          zbk r68 fun l69=>
          sif ((0:Nat)+List.length l40≤List.length l40) <|
          sif ((0:Nat)+List.length l69≤List.length l69) <|
          zan (zbg [x39,D.sl Tag.lent (cut (0:Nat) (List.length l40) l40),D.agg [D.int IntKind.i64 i33,D.int IntKind.i64 i34,D.int IntKind.i64 i35],D.agg [D.int IntKind.i64 i36,D.int IntKind.i64 i37,D.int IntKind.i64 i38],D.int IntKind.i64 (0:Int),D.sl Tag.lent (cut (0:Nat) (List.length l69) l69)] [U47,U48]) fun r70=>
          nilK r70.outs <|
          zdL r70.tbs fun c71 q72=>
          zdL q72 fun c73 q74=>
          nilK q74 <|
          asI IntKind.i64 r70.r fun i75=>
          sif ((0:Nat)+List.length l40≤List.length l40) <|
          zan (zaR [x39,D.sl Tag.lent (cut (0:Nat) (List.length l40) l40),D.agg [D.int IntKind.i64 i33,D.int IntKind.i64 i34,D.int IntKind.i64 i35],D.agg [D.int IntKind.i64 i33,D.int IntKind.i64 i34,D.int IntKind.i64 i35],D.int IntKind.i64 (0:Int)] [c71,c73]) fun r76=>
          nilK r76.outs <|
          nilK r76.tbs <|
          zdx r76.r fun ts77=>
          zas ([Lf.any,Lf.any]) ts77 fun c78=>
          zbk c78.fst fun l79=>
          asI IntKind.i64 c78.snd.fst fun i80=>
          sif ((0:Nat)+List.length l40≤List.length l40) <|
          zan (zbg [x39,D.sl Tag.lent (cut (0:Nat) (List.length l40) l40),D.agg [D.int IntKind.i64 i36,D.int IntKind.i64 i37,D.int IntKind.i64 i38],D.agg [D.int IntKind.i64 i33,D.int IntKind.i64 i34,D.int IntKind.i64 i35],D.int IntKind.i64 (0:Int),D.sl Tag.nil []] [c71,c73]) fun r81=>
          nilK r81.outs <|
          zdL r81.tbs fun c82 q83=>
          zdL q83 fun c84 q85=>
          nilK q85 <|
          asI IntKind.i64 r81.r fun i86=>
          letN (IntKind.wrap IntKind.i64 (i42 - i41)) fun n87=>
          brK ((i75 == (0:Int)) == (i67 == n87))
            (brK (i75 == (0:Int))
              (brK (i80 == (1:Int))
                (zan (zaf [D.agg [D.int IntKind.i64 i36,D.int IntKind.i64 i37,D.int IntKind.i64 i38],D.agg [D.int IntKind.i64 i33,D.int IntKind.i64 i34,D.int IntKind.i64 i35]]) fun r88=>
                asB r88 fun b89=>
                brK b89
                  (zan (zaN []) fun r90=>
                  asB r90 fun b91=>
                  some (D.bool b91))
                  (brK (i86 == (1:Int))
                    (zan (zaN []) fun r92=>
                    asB r92 fun b93=>
                    some (D.bool b93))
                    (some (D.bool false))))
                (some (D.bool false)))
              (brK (i75 == (1:Int))
                (asH ((3840:Nat)) x39 fun h94=>
                zan (zaK [D.h (3840:Nat) h94 (0:Nat)] [c82]) fun r95=>
                nilK r95.outs <|
                nilK r95.tbs <|
                asI IntKind.i64 r95.r fun i96=>
                brK (i96 == (0:Int))
                  (brK (i80 == (1:Int))
                    (zan (zaf [D.agg [D.int IntKind.i64 i36,D.int IntKind.i64 i37,D.int IntKind.i64 i38],D.agg [D.int IntKind.i64 i33,D.int IntKind.i64 i34,D.int IntKind.i64 i35]]) fun r97=>
                    asB r97 fun b98=>
                    brK b98
                      (zan (zaN []) fun r99=>
                      asB r99 fun b100=>
                      some (D.bool b100))
                      (brK (i86 == (1:Int))
                        (zan (zaN []) fun r101=>
                        asB r101 fun b102=>
                        some (D.bool b102))
                        (some (D.bool false))))
                    (some (D.bool false)))
                  (some (D.bool false)))
                (some (D.bool false))))
            (some (D.bool false))))
        (((a3,(c5.fst,c5.snd.fst,c5.snd.snd.fst,PUnit.unit),(c7.fst,c7.snd.fst,c7.snd.snd.fst,PUnit.unit),c14.fst,l18,i27,i28,(Tag.full,[D.int IntKind.i64 (IntKind.wrap IntKind.i64 ((0:Int) - n23)),D.int IntKind.i64 n30]),(↑(2:Nat):Int),(0:Int),PUnit.unit),c9,c11,PUnit.unit))))
theorem zgs (zbr:List D→Option D) (zbl:List D→List Tb→Option Ans) (zbs:List D→Option D) (zar:List D→Option D) (zaa:List D→Option D) (za9:List D→Option D) (zaR:List D→List Tb→Option Ans) (zaO:List D→Option D) (zbg:List D→List Tb→Option Ans) (zaK:List D→List Tb→Option Ans) (zaf:List D→Option D) (zaN:List D→Option D) (a0:Int) (a1:Int) (a2:Int) (a3:Int):denT Try.prog (zav [(ID.wattleplay_Pair,(.pure [0,0] zbr)),(ID.bench_New,(.st [] [0,0] [(3840,true),(7649,true)] zbl)),(ID.wattleplay_Live,(.pure [1] zbs)),(ID.wattleref01_Windows,(.pure [0] zar)),(ID.wattlekeep_Within,(.pure [0] zaa)),(ID.wattleref01_Span,(.pure [0,0] za9)),(ID.window_Read,(.st [] [1,0] [(3840,false),(7649,false)] zaR)),(ID.wattleplay_Sectors,(.pure [1] zaO)),(ID.window_Write,(.st [] [0] [(3840,true),(7649,true)] zbg)),(ID.bench_counter_Writes,(.st [] [0] [(3840,false)] zaK)),(ID.wattleref01_Can,(.pure [0] zaf)),(ID.wattlelaw20_wakes,(.pure [0] zaN))]) zdd [0] ID.wattlelaw20_WindowErrors [.int .i64 a0,.int .i64 a1,.int .i64 a2,.int .i64 a3]=sif (D.nohL [.int .i64 a0,.int .i64 a1,.int .i64 a2,.int .i64 a3]=true) (zcD zbr zbl zbs zar zaa za9 zaR zaO zbg zaK zaf zaN a0 a1 a2 a3):=by kernel_rfl
theorem zfg (a0:Int) (a1:Int) (a2:Int) (a3:Int):zcC [.int .i64 a0,.int .i64 a1,.int .i64 a2,.int .i64 a3]=sif (D.nohL [.int .i64 a0,.int .i64 a1,.int .i64 a2,.int .i64 a3]=true) (zcD zbr zbl zbs zar zaa za9 zaR zaO zbg zaK zaf zaN a0 a1 a2 a3):=zgs zbr zbl zbs zar zaa za9 zaR zaO zbg zaK zaf zaN a0 a1 a2 a3
end Wf

namespace Wf
open Go Go.RowKit Go.Proofs
set_option linter.unusedSimpArgs false
set_option linter.unusedVariables false
set_option maxHeartbeats 4000000
theorem window_errors (a0 a1 a2 a3:Int):zcC [.int .i64 a0,.int .i64 a1,.int .i64 a2,.int .i64 a3]=some (.bool true):=by
  rw [zfg]
  rw [zae (by simp [D.nohL,D.noh])]
  unfold zcD
  obtain ⟨x,y,hpair,hcan,hx5,hy8⟩:=zyR a0 a1
  obtain ⟨k1,k2,k3,k4,k5,k6⟩:=zhZ.1 hcan
  have hxd:=ok_d k1
  have hyd:=ok_d k2
  obtain ⟨U,V,idx,hnew,hB,hS⟩:=zzs [] [] (n:=y.d.toNat) (by omega) (by omega)
  simp only [List.length_nil] at hnew hB
  have hdn:((y.d.toNat:Nat):Int)=y.d:=by omega
  rw [hdn] at hnew
  have hlive:=zAJ (d:=y.d.toNat) (by omega) (by omega)
  rw [hdn] at hlive
  have hwin:zar [.agg [.int .i64 x.l,.int .i64 x.d,.int .i64 x.c],.agg [.int .i64 y.l,.int .i64 y.d,.int .i64 y.c]]=some (.int .i64 (winP x y)):=zpN x y
  have hspan:za9 [.agg [.int .i64 x.l,.int .i64 x.d,.int .i64 x.c],.agg [.int .i64 y.l,.int .i64 y.d,.int .i64 y.c],.int .i64 0]=some (.tup [.int .i64 (zbf x y 0).1,.int .i64 (zbf x y 0).2]):=zAn x y 0
  have hcanr:zaf [.agg [.int .i64 y.l,.int .i64 y.d,.int .i64 y.c],.agg [.int .i64 x.l,.int .i64 x.d,.int .i64 x.c]]=some (.bool (y.can x)):=zsH y.l y.d y.c x.l x.d x.c
  have hk:=zpO a2 50 (by omega) (by omega)
  have hk0:=Int.emod_nonneg a2 (show (50:Int)≠0 by omega)
  have hk1:=Int.emod_lt_of_pos a2 (show (0:Int) < 50 by omega)
  generalize a2 % 50=k at*
  have hc:=zpO a3 33 (by omega) (by omega)
  have hc0:=Int.emod_nonneg a3 (show (33:Int)≠0 by omega)
  have hc1:=Int.emod_lt_of_pos a3 (show (0:Int) < 33 by omega)
  have hwn:=ztT hcan
  have hW:=zum (x:=x) (y:=y) (k:=0) (by omega) (by omega)
  have hss:=hW.ss
  have hs0:=hW.s0
  have hm:=hW.m
  have hse:=hW.se
  generalize hlv:List.replicate y.d.toNat true=live at*
  have hrd:∀ i:Int,(i < 0∨winP x y≤i)→zaR [.h kB 0 0,.sl .lent (live.map D.bool),.agg [.int .i64 x.l,.int .i64 x.d,.int .i64 x.c],.agg [.int .i64 y.l,.int .i64 y.d,.int .i64 y.c],.int .i64 i] [P0 U 0 idx (Ben.new y.d.toNat),P1 V idx (Ben.new y.d.toNat)]=some (Ans.mk (.tup [.sl .own [],.int .i64 1]) [] []):=by
    intro i hi
    rw [zlq hB.at' (by have:=hB.w; omega) .lent live x y i]
    unfold Ben.wRead
    rw [if_pos (by
      cases h:mayW x y i
      · rfl
      · have:=zfH.1 h; omega)]
    rfl
  have hwr:∀ (i:Int) (tg:Tag) (n:Nat),n < 1000→(i < 0∨winP x y≤i∨(n:Int)≠(zbf x y i).2 - (zbf x y i).1)→zbg [.h kB 0 0,.sl .lent (live.map D.bool),.agg [.int .i64 x.l,.int .i64 x.d,.int .i64 x.c],.agg [.int .i64 y.l,.int .i64 y.d,.int .i64 y.c],.int .i64 i,.sl tg (pL (fP (secL [] n)))] [P0 U 0 idx (Ben.new y.d.toNat),P1 V idx (Ben.new y.d.toNat)]=some (Ans.mk (.int .i64 1) [] [P0 U 0 idx (Ben.new y.d.toNat),P1 V idx (Ben.new y.d.toNat)]):=by
    intro i tg n hn hi
    rw [zjP hB.at' (by have:=hB.w; omega) .lent live x y i tg (data:=secL [] n) (by simp; omega) (fun z hz _=>zwo _ _ z hz)]
    unfold Ben.wWrite
    rw [if_pos (by
      rcases hi with hi | hi | hi
      · left
        cases h:mayW x y i
        · rfl
        · have:=zfH.1 h; omega
      · left
        cases h:mayW x y i
        · rfl
        · have:=zfH.1 h; omega
      · right; left; rw [zwp]; exact hi)]
  have hsec:∀ n:Nat,n < 1000→zaO [.sl .nil [],.int .i64 n]=some (.sl .own (pL (fP (secL [] n)))):=fun n hn=>zuk .nil [] (by omega)
  have hlast:∀ (B:Ben) (K:Int),Run U V 0 idx B y.d.toNat K→K≤100→
      zaR [.h kB 0 0,.sl .lent (live.map D.bool),.agg [.int .i64 x.l,.int .i64 x.d,.int .i64 x.c],.agg [.int .i64 x.l,.int .i64 x.d,.int .i64 x.c],.int .i64 0] [P0 U 0 idx B,P1 V idx B]=some (Ans.mk (.tup [.sl .own [],.int .i64 1]) [] [])∧
      zbg [.h kB 0 0,.sl .lent (live.map D.bool),.agg [.int .i64 y.l,.int .i64 y.d,.int .i64 y.c],.agg [.int .i64 x.l,.int .i64 x.d,.int .i64 x.c],.int .i64 0,.sl .nil []] [P0 U 0 idx B,P1 V idx B]=some (Ans.mk (.int .i64 1) [] [P0 U 0 idx B,P1 V idx B]):=by
    intro B K hR hK
    have hw:=hR.w
    constructor
    · rw [zlq hR.at' (by omega) .lent live x x 0]
      unfold Ben.wRead
      rw [if_pos (by
        cases h:mayW x x 0
        · rfl
        · have:=zfH.1 h
          have h2:=zzm this.1 this.2
          exact absurd rfl (zhZ.1 h2).2.2.1)]
      rfl
    · have:=zjP hR.at' (by omega) .lent live y x 0 .nil (data:=[]) (by simp) (fun z hz _=>by cases hz)
      refine Eq.trans this ?_
      unfold Ben.wWrite
      rw [if_pos (by
        cases h:mayW y x 0
        · exact .inl rfl
        · have h1:=zfH.1 h
          have h2:=zum h1.1 h1.2
          have:=h2.ss
          have:=h2.m
          right; left
          simp
          omega)]
  have hww:=zCz
  have hxD:x.D=.agg [.int .i64 x.l,.int .i64 x.d,.int .i64 x.c]:=rfl
  have hyD:y.D=.agg [.int .i64 y.l,.int .i64 y.d,.int .i64 y.c]:=rfl
  rw [hxD,hyD] at hpair
  have hlen:live.length=y.d.toNat:=by rw [←hlv]; simp
  have e1:IntKind.i64.wrap (1+k)=1+k:=zah (by omega) (by omega)
  have e2:IntKind.i64.wrap (0 - (1+k))=0 - (1+k):=zah (by omega) (by omega)
  have e3:IntKind.i64.wrap (winP x y - 1)=winP x y - 1:=zah (by omega) (by omega)
  have e4:IntKind.i64.wrap (winP x y - 1+(1+k))=winP x y - 1+(1+k):=zah (by omega) (by omega)
  have e5:IntKind.i64.wrap ((zbf x y 0).2 - (zbf x y 0).1)=((((zbf x y 0).2 - (zbf x y 0).1).toNat:Nat):Int):=by rw [zah (by omega) (by omega)]; omega
  rw [hpair,zad,zdN,zed,zpa,zd7,zd7,zd7,zeY,zpa,zd7,zd7,zd7,zeY]
  dsimp only
  rw [hnew,zad]
  dsimp only
  rw [zcy,zdA,zdA,zcy,zdN,zed]
  dsimp only
  rw [zae (by rfl),zbp,zlR rfl,zBR,zaw,hlive,zad,zbH,hwin,zad,zbp,hk,zad,zbp,zaZ,e1,hspan,zad,zdN,zed]
  dsimp only
  rw [zbp,zbp,zaZ,e3,zaZ,e4,zae rfl,e2]
  let st:Nat→(Int×(Int×Int×Int×PUnit)×(Int×Int×Int×PUnit)×D×List D×Int×Int×(Tag×List D)×Int×Int×PUnit)×List (List D)×List (List D)×PUnit:=fun j=>
    ((a3,(x.l,x.d,x.c,PUnit.unit),(y.l,y.d,y.c,PUnit.unit),.h kB 0 0,live.map D.bool,(zbf x y 0).1,(zbf x y 0).2,(Tag.full,[D.int IntKind.i64 (0 - (1+k)),D.int IntKind.i64 (winP x y - 1+(1+k))]),2,(j:Int),PUnit.unit),P0 U 0 idx (Ben.new y.d.toNat),P1 V idx (Ben.new y.d.toNat),PUnit.unit)
  show zcs _ (st 0)=_
  have hcut:∀ l:List D,cut 0 l.length l=l:=fun l=>znj rfl
  refine zdV st 2 (by omega) ?_ ?_
  · intro again j hj
    dsimp only [st]
    obtain ⟨i,hi,hgi⟩:∃ i:Int,(i < 0∨winP x y≤i)∧[D.int IntKind.i64 (0 - (1+k)),D.int IntKind.i64 (winP x y - 1+(1+k))][j]? =some (.int .i64 i):=by
      rcases (show j=0∨j=1 by omega) with rfl | rfl
      · exact ⟨0 - (1+k),.inl (by omega),rfl⟩
      · exact ⟨winP x y - 1+(1+k),.inr (by omega),rfl⟩
    have hj2:(j:Int) < 2:=by omega
    have h1:=hrd i hi
    have h2:=hwr i .lent (((zbf x y 0).2 - (zbf x y 0).1).toNat) (by omega) (by omega)
    have h3:=hsec (((zbf x y 0).2 - (zbf x y 0).1).toNat) (by omega)
    have e6:IntKind.i64.wrap ((j:Int)+1)=((j+1:Nat):Int):=by rw [zah (by omega) (by omega)]; omega
    rw [decide_eq_true hj2,za6,zae (by omega),Int.toNat_natCast,zaq hgi,zbp,zae (by omega),hcut,h1,zad]
    dsimp only
    rw [zcy,zcy,zdN,zed]
    dsimp only
    rw [zbH,zbp,zlR rfl,zae (by simp),zlR (by simp),zaZ,e5,h3,zad,zbH,zae (by omega),zae (by omega),hcut,h2,zad]
    dsimp only
    rw [zcy,zdA,zdA,zcy,zbp,zlR rfl,zaZ,e6,zae rfl]
  · intro again
    dsimp only [st]
    have hcl:List.length (live.map D.bool)=live.length:=by simp
    have hi0:0≤a3 % 33:=hc0
    obtain ⟨c,hcc⟩:∃ c:Nat,(c:Int)=a3 % 33:=⟨(a3 % 33).toNat,by omega⟩
    rw [←hcc] at hc hc1
    have h3:=hsec c (by omega)
    have hpl:(pL (fP (secL [] c))).length=c:=by simp
    by_cases hce:(c:Int)=(zbf x y 0).2 - (zbf x y 0).1
    · have hD:WinD x y 0 (secL [] c):=⟨by omega,by omega,by rw [zwp]; exact hce,zwo _ _⟩
      obtain ⟨B1,h4,hB1,_⟩:=hB.win (by omega) .lent live .lent hD
      obtain ⟨h5,h6⟩:=hlast B1 _ hB1 (by omega)
      have e7:IntKind.i64.wrap ((zbf x y 0).2 - (zbf x y 0).1)=(c:Int):=by rw [e5]; omega
      have b1:((0:Int) == 0)=true:=rfl
      have b2:((1:Int) == 1)=true:=rfl
      have b3:((c:Int) == (c:Int))=true:=by simp
      have b4:(true == true)=true:=rfl
      simp (disch:=first | omega | assumption | (simp; done) | fail) only [zbI,zB1,Int.lt_irrefl,not_false_eq_true,hc,zad,zbp,zcl,h3,zbH,zae,Nat.zero_add,Nat.le_refl,hcut,h4,zcy,zdA,h5,zdN,zed,h6,zaZ,za6,zaw,hcanr,hww,e7,b1,b2,b3,b4]
      cases y.can x<;>simp only [zbI,za6,zaw,zad,zcl,hww,b2]
    · have h4:=hwr 0 .lent c (by omega) (.inr (.inr hce))
      obtain ⟨h5,h6⟩:=hlast _ _ hB (by omega)
      have hwr0:=zAu hB.at'
      have e7:IntKind.i64.wrap ((zbf x y 0).2 - (zbf x y 0).1)=(zbf x y 0).2 - (zbf x y 0).1:=zah (by omega) (by omega)
      have b1:((1:Int) == 0)=false:=rfl
      have b2:((1:Int) == 1)=true:=rfl
      have b3:((c:Int) == (zbf x y 0).2 - (zbf x y 0).1)=false:=by simpa using hce
      have b4:(false == false)=true:=rfl
      have b5:((0:Int) == 0)=true:=rfl
      have hwr0':zaK [.h 3840 0 0] [P0 U 0 idx (Ben.new y.d.toNat)]=some (Ans.mk (.int .i64 0) [] []):=hwr0
      have hH:∀ f:Nat→Option D,asH 3840 (D.h kB 0 0) f=f 0:=fun f=>zEc ..
      simp (disch:=first | omega | assumption | (simp; done) | fail) only [zbI,zB1,Int.lt_irrefl,not_false_eq_true,hc,zad,zbp,zcl,h3,zbH,zae,Nat.zero_add,Nat.le_refl,hcut,h4,zcy,zdA,h5,zdN,zed,h6,zaZ,za6,zaw,hcanr,hww,e7,b1,b2,b3,b4,b5,hwr0',hH]
      cases y.can x<;>simp only [zbI,za6,zaw,zad,zcl,hww,b2]
end Wf

