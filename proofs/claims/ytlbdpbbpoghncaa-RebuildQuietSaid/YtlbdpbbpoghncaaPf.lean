/- A part of the proof: lemmas that the law's row leans on. -/
import Derived.Test.YtlbdpbbpoghncaaPe
import Derived.Test.YtlbdpbbpoghncaaPd
set_option linter.all false
namespace Wf
open Go Go.RowKit Go.Proofs
set_option linter.unusedSimpArgs false
set_option linter.unusedVariables false
theorem gf_double (a:Int):za7 [.int .u8 a]=some (.int .u8 (dbl a)):=by
 rw [zsw];unfold znj dbl
 by_cases h:128≤a
 ·simp [h]
 ·simp [h]
theorem zGO (a b:Int) (h0:0≤b) (h1:b < 256):zeG [.int .u8 a,.int .u8 b]=some (.int .u8 (mul8 a b)):=by
 rw [zxJ];unfold zuR
 refine zlS (fun x=>x.1.2.1.toNat) (fun _=>some (D.int .u8 (mul8 a b)))
  (fun x=>∃ (n:Nat) (a' b' o:Int),0≤b'∧b' < 2 ^ n∧n≤8∧mulA n a' b' o=mul8 a b∧x=((a',b',o,PUnit.unit),PUnit.unit)) ?_ ⟨8,a,b,0,h0,h1,Nat.le_refl _,rfl,rfl⟩ (by simp; omega)
 rintro again _ ⟨n,a',b',o,p0,p1,p2,p3,rfl⟩ hag
 dsimp only
 by_cases hb:b' > 0
 ·have hd:decide (b' > 0)=true:=by simp [hb]
  rw [hd,za5,zaR]
  cases n with
  | zero=>simp at p1; omega
  | succ n=>
   have hdiv:b'.fdiv 2=b' / 2:=Int.fdiv_eq_ediv_of_nonneg _ (by omega)
   have hlt:b' / 2 < 2 ^ n:=by
    have:(2:Int) ^ (n+1)=2 ^ n*2:=Int.pow_succ ..;omega
   by_cases hone:bits .and .u8 b' 1=1
   ·have hbo:(bits .and .u8 b' 1 == 1)=true:=by simp [hone]
    rw [hbo,za5,zaR,gf_double,zac,zbg,zaR,hdiv]
    refine hag _ ⟨n,_,_,_,by omega,hlt,by omega,?_,rfl⟩ (by simp; omega)
    rw [←p3]
    show _=mulA n (dbl a') (b' / 2) (if bits .and .u8 b' 1=1 then xor8 o a' else o)
    rw [if_pos hone]
   ·have hbo:(bits .and .u8 b' 1 == 1)=false:=by simp [hone]
    rw [hbo,zar,gf_double,zac,zbg,zaR,hdiv]
    refine hag _ ⟨n,_,_,_,by omega,hlt,by omega,?_,rfl⟩ (by simp; omega)
    rw [←p3]
    show _=mulA n (dbl a') (b' / 2) (if bits .and .u8 b' 1=1 then xor8 o a' else o)
    rw [if_neg hone]
 ·have hd:decide (b' > 0)=false:=by simp [hb]
  have:b'=0:=by omega
  subst this;rw [hd,zar,←p3,zBj]
theorem zDu {a b:List Int} {k:Nat} {x y:Int} (h1:a[k]? =some x) (h2:b[k]? =some y):(List.zipWith xor8 a b).take (k+1)=(List.zipWith xor8 a b).take k++[xor8 x y]:=by
 rw [List.take_add_one];congr 1;simp [List.getElem?_zipWith,h1,h2]
theorem zhW (t t':Tag) (a b:List Int) (ha:a.length < 100000):zaL [.sl t (uL a),.sl t' (uL b)]=some (.sl .own (uL (addL a b))):=by
 rw [zuS,zc6,zc6];unfold zpi addL
 by_cases hl:a.length=b.length
 ·have hb:(((uL a).length:Int) != ((uL b).length:Int))=false:=by simp [hl]
  rw [hb,zar,if_pos hl]
  let st:Nat→(List D×List D×List D×Int×Int×PUnit)×PUnit:=fun k=>((uL b,uL ((List.zipWith xor8 a b).take k),uL a,(a.length:Int),(k:Int),PUnit.unit),PUnit.unit)
  have hst:st 0=((uL b,[],uL a,((uL a).length:Int),0,PUnit.unit),PUnit.unit):=by simp [st,uL]
  rw [←hst];refine zcf st a.length ha ?_ ?_
  ·intro again k hk;dsimp only [st];have h1:a[k]? =some a[k]:=List.getElem?_eq_getElem hk
   have h2:b[k]? =some (b[k]'(by omega)):=List.getElem?_eq_getElem (by omega)
   have hd:decide ((k:Int) < (a.length:Int))=true:=by simp; omega
   rw [hd,za5,zaa (by omega),zag (by simpa using zjW h1),zbg,zaa (by omega),zag (by simpa using zjW h2),zbg,zaR,zaa (by simp; omega),zaa (by rfl),zaR,zal (by omega) (by omega),zaa (by simp)]
   rw [zDu h1 h2,←zBs];rfl
  ·intro again;dsimp only [st]
   have hd:decide ((a.length:Int) < (a.length:Int))=false:=by simp
   have ht:(List.zipWith xor8 a b).take a.length=List.zipWith xor8 a b:=List.take_of_length_le (by simp; omega)
   rw [hd,zar,zaa (by rfl),zaa (zhc _),ht]
 ·have hb:(((uL a).length:Int) != ((uL b).length:Int))=true:=by simp; omega
  rw [hb,za5,if_neg hl];rfl
theorem zi6 (t:Tag) (a:List Int) (ha:a.length < 100000) {f:Int} (h0:0≤f) (h1:f < 256):zaJ [.sl t (uL a),.int .u8 f]=some (.sl .own (uL (a.map (mul8 · f)))):=by
 rw [zrT,zc6];unfold zlc
 let st:Nat→(Int×List D×List D×Int×Int×PUnit)×PUnit:=fun k=>((f,uL ((a.map (mul8 · f)).take k),uL a,(a.length:Int),(k:Int),PUnit.unit),PUnit.unit)
 have hst:st 0=((f,[],uL a,((uL a).length:Int),0,PUnit.unit),PUnit.unit):=by simp [st,uL]
 rw [←hst];refine zcf st a.length ha ?_ ?_
 ·intro again k hk;dsimp only [st];have h2:a[k]? =some a[k]:=List.getElem?_eq_getElem hk
  have hd:decide ((k:Int) < (a.length:Int))=true:=by simp; omega
  rw [hd,za5,zaa (by omega),zag (by simpa using zjW h2),zbg,zGO _ _ h0 h1,zac,zbg,zaa (by simp; omega),zaa (by rfl),zaR,zal (by omega) (by omega),zaa (by simp)]
  have:(a.map (mul8 · f)).take (k+1)=(a.map (mul8 · f)).take k++[mul8 a[k] f]:=by rw [List.take_add_one]; simp [h2]
  rw [this,←zBs];rfl
 ·intro again;dsimp only [st]
  have hd:decide ((a.length:Int) < (a.length:Int))=false:=by simp
  have ht:(a.map (mul8 · f)).take a.length=a.map (mul8 · f):=List.take_of_length_le (by simp)
  rw [hd,zar,zaa (by rfl),zaa (zhc _),ht]
abbrev Part:=Tag×List Int
def pL (ps:List Part):List D:=ps.map fun x=>.sl x.1 (uL x.2)
def zb3 (t:Tag) (l:List Int):Tag:=match t,l with
 | .nil,_=>.nil
 | .nn,[]=>.nn
 | .nul,[]=>.nul
 | _,_=>.lent
theorem zFq (t:Tag) (l:List Int):D.lent (.sl t (uL l))=.sl (zb3 t l) (uL l):=by
 have h:=zc6 l
 cases l with
 | nil=>cases t<;>rfl
 | cons n l=>
  have e:uL (n::l)=.int .u8 n::uL l:=rfl;rw [e] at h ⊢;cases t<;>simp only [D.lent,h,zb3]<;>simp [D.lentL,D.lent,zc6]
theorem zc9 (ps:List Part):D.lentL (pL ps)=pL (ps.map fun x=>(zb3 x.1 x.2,x.2)):=by
 unfold pL;rw [zq5,List.map_map,List.map_map];apply List.map_congr_left;intro x _;exact zFq x.1 x.2
@[simp] theorem zwG (ps:List Part):(pL ps).length=ps.length:=by simp [pL]
theorem zcP {ps:List Part} {k:Nat} {x:Part} (h:ps[k]? =some x):(pL ps)[k]? =some (.sl x.1 (uL x.2)):=by simp [pL,h]
theorem zBV (ps:List Part) (t:Tag) (l:List Int):pL ps++[.sl t (uL l)]=pL (ps++[(t,l)]):=by simp [pL]
theorem zp4 (ps:List Part) (i:Nat) (t:Tag) (l:List Int):(pL ps).set i (.sl t (uL l))=pL (ps.set i (t,l)):=by simp [pL,List.map_set]
def Part.free (x:Part):Bool:=x.1=.fresh || x.1=.full || x.1=.nil
theorem zlE {ps:List Part} (h:∀ x∈ps,x.free=true):(pL ps).all D.free=true:=by
 unfold pL;rw [List.all_map,List.all_eq_true];intro x hx;have:=h x hx;obtain ⟨t,l⟩:=x
 cases t<;>first | (exact zuE l) | (exact absurd this (by simp [Part.free]))
theorem zwH (k:Nat) (hk:k < 255):zaZ [.int .i64 k]=some (.int .u8 (pow8 k)):=by
 rw [zrU];unfold zqA
 have e1:Int.tmod (k:Int) 255=k:=by rw [Int.tmod_eq_emod_of_nonneg (by omega),Int.emod_eq_of_lt (by omega) (by omega)]
 have e2:Int.tmod ((k:Int)+255) 255=k:=by
  rw [Int.tmod_eq_emod_of_nonneg (by omega),Int.add_emod_right,Int.emod_eq_of_lt (by omega) (by omega)]
 rw [zaR,e1,zaR,zal (by omega) (by omega),zaR,e2]
 refine zcf (fun j=>((pow8 j,(k:Int),(j:Int),PUnit.unit),PUnit.unit)) k (by omega) ?_ ?_
 ·intro again j hj;dsimp only
  have hd:decide ((j:Int) < (k:Int))=true:=by simp; omega
  rw [hd,za5,gf_double,zac,zbg,zaR,zal (by omega) (by omega)]
  rfl
 ·intro again
  have hd:decide ((k:Int) < (k:Int))=false:=by simp
  dsimp only;rw [hd,zar]
theorem zBW (tg:Tag) {ps:List Part} {n:Nat} (hn:n < 100000) (h0:0 < ps.length) (h1:ps.length < 255) (h:∀ x∈ps,x.2.length=n):
  zb0 [.sl tg (pL ps)]=some (.sl .own (uL (sumP n (ps.map (·.2))))):=by
 rw [zxK,zc9];unfold zuW
 have hsum:∀ {qs:List Part},0 < qs.length→qs.length < 255→(∀ x∈qs,x.2.length=n)→∀ tg,zbQ [.sl tg (pL qs),.fn ID.synd_P_1 [] []]=some (.sl .own (uL (sumP n (qs.map (·.2))))):=by
  intro qs h0 h1 h tg;rw [zqh,zc9]
  have hl':∀ x∈(qs.map fun x=>(zb3 x.1 x.2,x.2)),x.2.length=n:=by
   intro x hx; obtain ⟨y,hy,rfl⟩:=List.mem_map.1 hx; exact h y hy
  have hm:(qs.map fun x=>(zb3 x.1 x.2,x.2)).map (·.2)=qs.map (·.2):=by rw [List.map_map]; rfl
  rw [←hm]
  have hlen:(qs.map fun x=>(zb3 x.1 x.2,x.2)).length=qs.length:=by simp
  rw [←hlen] at h0 h1
  generalize (qs.map fun x=>(zb3 x.1 x.2,x.2))=rs at*
  clear hm hlen h qs;unfold zjv
  have hb:(((pL rs).length:Int) == 0)=false:=by simp; intro e; rw [e] at h0; simp at h0
  obtain ⟨x0,hx0⟩:∃ x,rs[0]? =some x:=⟨_,List.getElem?_eq_getElem h0⟩;have hx0l:=hl' x0 (List.mem_of_getElem? hx0)
  rw [hb,zar,zag (zcP hx0),zfa,zaa (by rfl),zdK,hx0l,zaa (by omega),zaa (by omega),zaa (by simp),Int.toNat_natCast,zrw]
  have hls:∀ l∈rs.map (·.2),l.length=n:=by intro l hl; obtain ⟨y,hy,rfl⟩:=List.mem_map.1 hl; exact hl' y hy
  let st:Nat→(List D×List D×Int×Int×PUnit)×PUnit:=fun k=>((uL (sumK (fun _=>1) n (rs.map (·.2)) k),pL rs,((pL rs).length:Int),(k:Int),PUnit.unit),PUnit.unit)
  have hst:st 0=((uL (List.replicate n 0),pL rs,((pL rs).length:Int),0,PUnit.unit),PUnit.unit):=rfl;rw [←hst]
  refine zcf st rs.length (by omega) ?_ ?_
  ·intro again k hk;dsimp only [st];obtain ⟨x,hx⟩:∃ x,rs[k]? =some x:=⟨_,List.getElem?_eq_getElem hk⟩;have hxl:=hl' x (List.mem_of_getElem? hx)
   have hd:decide ((k:Int) < ((pL rs).length:Int))=true:=by simp; omega
   have hsl:=zlU (f:=fun _=>1) hls (k:=k) (by simp; omega)
   rw [hd,za5,zaa (by omega),zag (by simpa using zcP hx),zfa,zaa (by omega)]
   have hb2:(((uL x.2).length:Int) != ((uL (sumK (fun _=>1) n (rs.map (·.2)) k)).length:Int))=false:=by simp [hxl,hsl]
   have hone:zbF [.int .i64 (k:Int)]=some (.int .u8 1):=by rw [zuT]; rfl
   rw [hb2,zar,hone,zac,zbg,zi6 _ _ (by omega) (by omega) (by omega),zac,zbn,zaa (by omega),zaa (by omega),zdq,zdq,zhW _ _ _ _ (by omega),zac,zbn,zaR,
    zal (by omega) (by omega),zaa (by rfl)]
   have he:addL (sumK (fun _=>1) n (rs.map (·.2)) k) (x.2.map (mul8 · 1))=sumK (fun _=>1) n (rs.map (·.2)) (k+1):=by
    unfold addL
    rw [if_pos (by simp [hsl,hxl])]
    have:(rs.map (·.2)).getD k []=x.2:=by simp [List.getD_eq_getElem?_getD,hx]
    simp only [sumK,this]
   rw [he];rfl
  ·intro again;dsimp only [st]
   have hd:decide ((rs.length:Int) < ((pL rs).length:Int))=false:=by simp
   rw [hd,zar,zaa (by rfl),zaa (zhc _)]
   simp [sumP]
 rw [hsum (by simpa using h0) (by simpa using h1) (by intro x hx; obtain ⟨y,hy,rfl⟩:=List.mem_map.1 hx; exact h y hy),zac,zbn,zaa (by rfl),zaa (zhc _),List.map_map]
 rfl
theorem zBX (tg:Tag) {ps:List Part} {n:Nat} (hn:n < 100000) (h0:0 < ps.length) (h1:ps.length < 255) (h:∀ x∈ps,x.2.length=n):
  zb1 [.sl tg (pL ps)]=some (.sl .own (uL (sumQ n (ps.map (·.2))))):=by
 rw [zxL,zc9];unfold zuX
 have hsum:∀ {qs:List Part},0 < qs.length→qs.length < 255→(∀ x∈qs,x.2.length=n)→∀ tg,zbQ [.sl tg (pL qs),.fn ID.gf_Pow [] []]=some (.sl .own (uL (sumQ n (qs.map (·.2))))):=by
  intro qs h0 h1 h tg;rw [zqi,zc9]
  have hl':∀ x∈(qs.map fun x=>(zb3 x.1 x.2,x.2)),x.2.length=n:=by
   intro x hx; obtain ⟨y,hy,rfl⟩:=List.mem_map.1 hx; exact h y hy
  have hm:(qs.map fun x=>(zb3 x.1 x.2,x.2)).map (·.2)=qs.map (·.2):=by rw [List.map_map]; rfl
  rw [←hm]
  have hlen:(qs.map fun x=>(zb3 x.1 x.2,x.2)).length=qs.length:=by simp
  rw [←hlen] at h0 h1
  generalize (qs.map fun x=>(zb3 x.1 x.2,x.2))=rs at*
  clear hm hlen h qs;unfold zjw
  have hb:(((pL rs).length:Int) == 0)=false:=by simp; intro e; rw [e] at h0; simp at h0
  obtain ⟨x0,hx0⟩:∃ x,rs[0]? =some x:=⟨_,List.getElem?_eq_getElem h0⟩;have hx0l:=hl' x0 (List.mem_of_getElem? hx0)
  rw [hb,zar,zag (zcP hx0),zfa,zaa (by rfl),zdK,hx0l,zaa (by omega),zaa (by omega),zaa (by simp),Int.toNat_natCast,zrw]
  have hls:∀ l∈rs.map (·.2),l.length=n:=by intro l hl; obtain ⟨y,hy,rfl⟩:=List.mem_map.1 hl; exact hl' y hy
  let st:Nat→(List D×List D×Int×Int×PUnit)×PUnit:=fun k=>((uL (sumK pow8 n (rs.map (·.2)) k),pL rs,((pL rs).length:Int),(k:Int),PUnit.unit),PUnit.unit)
  have hst:st 0=((uL (List.replicate n 0),pL rs,((pL rs).length:Int),0,PUnit.unit),PUnit.unit):=rfl;rw [←hst]
  refine zcf st rs.length (by omega) ?_ ?_
  ·intro again k hk;dsimp only [st];obtain ⟨x,hx⟩:∃ x,rs[k]? =some x:=⟨_,List.getElem?_eq_getElem hk⟩;have hxl:=hl' x (List.mem_of_getElem? hx)
   have hd:decide ((k:Int) < ((pL rs).length:Int))=true:=by simp; omega
   have hsl:=zlU (f:=pow8) hls (k:=k) (by simp; omega)
   rw [hd,za5,zaa (by omega),zag (by simpa using zcP hx),zfa,zaa (by omega)]
   have hb2:(((uL x.2).length:Int) != ((uL (sumK pow8 n (rs.map (·.2)) k)).length:Int))=false:=by simp [hxl,hsl]
   have hone:=zwH k (by omega)
   rw [hb2,zar,hone,zac,zbg,zi6 _ _ (by omega) (ziD k).1 (ziD k).2,zac,zbn,zaa (by omega),zaa (by omega),zdq,zdq,zhW _ _ _ _ (by omega),zac,zbn,zaR,
    zal (by omega) (by omega),zaa (by rfl)]
   have he:addL (sumK pow8 n (rs.map (·.2)) k) (x.2.map (mul8 · (pow8 k)))=sumK pow8 n (rs.map (·.2)) (k+1):=by
    unfold addL
    rw [if_pos (by simp [hsl,hxl])]
    have:(rs.map (·.2)).getD k []=x.2:=by simp [List.getD_eq_getElem?_getD,hx]
    simp only [sumK,this]
   rw [he];rfl
  ·intro again;dsimp only [st]
   have hd:decide ((rs.length:Int) < ((pL rs).length:Int))=false:=by simp
   rw [hd,zar,zaa (by rfl),zaa (zhc _)]
   simp [sumQ]
 rw [hsum (by simpa using h0) (by simpa using h1) (by intro x hx; obtain ⟨y,hy,rfl⟩:=List.mem_map.1 hx; exact h y hy),zac,zbn,zaa (by rfl),zaa (zhc _),List.map_map]
 rfl
end Wf

namespace Wf
open Go Go.RowKit Go.Proofs
set_option linter.unusedSimpArgs false
set_option linter.unusedVariables false
theorem zBY (l:List Int):(intL l).all D.free=true:=by simp [intL,D.free]
theorem zBZ (l:List Int) (n:Int):intL l++[.int .i64 n]=intL (l++[n]):=by simp [intL]
def zxT (ls:List (List Int)) (k:Nat):List Int:=((List.range k).filter fun i=>(ls.getD i []).isEmpty).map Int.ofNat
def miss (ls:List (List Int)):List Int:=zxT ls ls.length
theorem zzX (ls:List (List Int)) (k:Nat):zxT ls (k+1)=zxT ls k++if (ls.getD k []).isEmpty then [(k:Int)] else []:=by
 unfold zxT;rw [List.range_succ,List.filter_append,List.map_append];congr 1
 by_cases h:(ls.getD k []).isEmpty=true
 ·rw [if_pos h,List.filter_cons_of_pos (p:=fun i=>(ls.getD i []).isEmpty) h]; rfl
 ·rw [if_neg h,List.filter_cons_of_neg (p:=fun i=>(ls.getD i []).isEmpty) h]; rfl
theorem zB0 (ls:List (List Int)) (k:Nat):(zxT ls k).length≤k:=by
 unfold zxT;rw [List.length_map]
 exact Nat.le_trans (List.length_filter_le _ _) (by simp)
theorem zoI (tg:Tag) (ps:List Part) (hn:ps.length < 100000):zbJ [.sl tg (pL ps)]=some (.sl .own (intL (miss (ps.map (·.2))))):=by
 rw [zom,zc9]
 have hm:(ps.map fun x=>(zb3 x.1 x.2,x.2)).map (·.2)=ps.map (·.2):=by rw [List.map_map]; rfl
 have hlen:(ps.map fun x=>(zb3 x.1 x.2,x.2)).length=ps.length:=by simp
 rw [←hm];rw [←hlen] at hn
 generalize (ps.map fun x=>(zb3 x.1 x.2,x.2))=rs at*
 unfold zhl
 let st:Nat→(List D×List D×Int×Int×PUnit)×PUnit:=fun k=>((intL (zxT (rs.map (·.2)) k),pL rs,((pL rs).length:Int),(k:Int),PUnit.unit),PUnit.unit)
 have hst:st 0=(([],pL rs,((pL rs).length:Int),0,PUnit.unit),PUnit.unit):=rfl;rw [←hst]
 refine zcf st rs.length (by omega) ?_ ?_
 ·intro again k hk;dsimp only [st];obtain ⟨x,hx⟩:∃ x,rs[k]? =some x:=⟨_,List.getElem?_eq_getElem hk⟩
  have hd:decide ((k:Int) < ((pL rs).length:Int))=true:=by simp; omega
  have hk2:=zB0 (rs.map (·.2)) k
  have hgd:(rs.map (·.2)).getD k []=x.2:=by simp [List.getD_eq_getElem?_getD,hx]
  rw [hd,za5,zaa (by omega),zag (by simpa using zcP hx),zfa,zzX,hgd]
  by_cases he:x.2=[]
  ·have hb:(((uL x.2).length:Int) == 0)=true:=by simp [he]
   rw [hb,za5,zaa (by rw [zgP]; omega),zaa (by rfl),zaR,zal (by omega) (by omega),zaa (by simp),zBZ,he]
   rfl
  ·have hb:(((uL x.2).length:Int) == 0)=false:=by simp; omega
   have hb2:x.2.isEmpty=false:=by simp [he]
   rw [hb,zar,zaR,zal (by omega) (by omega),zaa (by rfl),hb2]
   simp
 ·intro again;dsimp only [st]
  have hd:decide ((rs.length:Int) < ((pL rs).length:Int))=false:=by simp
  rw [hd,zar,zaa (by rfl),zaa (zBY _)]
  simp [miss]
theorem zHz (t:Tag) (l:List Int) (n:Int):zaE [.sl t (uL l),.at_ (.int .i64 n)]=some (.bool (!fitS n l)):=by
 rw [zpf,zc6];unfold zh7 fitS
 cases l with
 | nil=>simp
 | cons a l=>
  have hd:decide (((uL (a::l)).length:Int) > 0)=true:=by simp
  rw [hd,za5];simp [bne];rfl
theorem zsJ (tg:Tag) (ps:List Part) (hn:ps.length < 100000) (n:Int):
  ∃ r,zaj [.sl tg (pL ps),.fn ID.erase_fits_1 [] [.at_ (.int .i64 n)]]=some r∧∃ i:Int,r=.int .i64 i∧decide (i≥0)= !(ps.all fun x=>fitS n x.2):=by
 rw [zeu,zc9]
 have hm:(ps.all fun x=>fitS n x.2)=((ps.map fun x=>(zb3 x.1 x.2,x.2)).all fun x=>fitS n x.2):=by rw [List.all_map]; rfl
 have hlen:(ps.map fun x=>(zb3 x.1 x.2,x.2)).length=ps.length:=by simp
 rw [hm];rw [←hlen] at hn
 generalize (ps.map fun x=>(zb3 x.1 x.2,x.2))=rs at*
 unfold zcm
 refine zyC (fun a=>(rs.length:Nat) - a.1.2.2.2.1.toNat) (fun r=>∃ i:Int,r=D.int .i64 i∧decide (i≥0)= !(rs.all fun x=>fitS n x.2))
  (fun a=>∃ k:Nat,k≤rs.length∧((rs.take k).all fun x=>fitS n x.2)=true∧a=((pL rs,n,(rs.length:Int),(k:Int),PUnit.unit),PUnit.unit)) ?_ ⟨0,by omega,by simp,by rw [zwG]; rfl⟩ (by simp; omega)
 rintro again _ ⟨k,hk,he,rfl⟩ hag
 dsimp only
 by_cases hkm:k < rs.length
 ·obtain ⟨x,hx⟩:∃ x,rs[k]? =some x:=⟨_,List.getElem?_eq_getElem hkm⟩
  have hd:decide ((k:Int) < (rs.length:Int))=true:=by simp; omega
  rw [hd,za5,zaa (by omega),zag (by simpa using zcP hx),zfa,zHz,zac,zck]
  cases hf:fitS n x.2
  ·refine ⟨_,rfl,_,rfl,?_⟩
   have:(rs.all fun x=>fitS n x.2)=false:=by
    rw [List.all_eq_false]
    exact ⟨x,List.mem_of_getElem? hx,by simp [hf]⟩
   rw [this];simp
  ·simp only [Bool.not_true,zar,zaR]
   rw [zal (by omega) (by omega)]
   refine hag _ ⟨k+1,by omega,?_,rfl⟩ (by simp; omega)
   rw [List.take_add_one,hx,List.all_append,he];simp [hf]
 ·have hd:decide ((k:Int) < (rs.length:Int))=false:=by simp; omega
  rw [hd,zar];refine ⟨_,rfl,_,rfl,?_⟩
  rw [List.take_of_length_le (by omega)] at he
  rw [he];rfl
theorem erase_fits (tg:Tag) (ps:List Part) (hn:ps.length < 100000) (n:Int):zce [.int .i64 n,.sl tg (pL ps)]=some (.bool (ps.all fun x=>fitS n x.2)):=by
 rw [zrR,zc9]
 have hm:(ps.all fun x=>fitS n x.2)=((ps.map fun x=>(zb3 x.1 x.2,x.2)).all fun x=>fitS n x.2):=by rw [List.all_map]; rfl
 have hlen:(ps.map fun x=>(zb3 x.1 x.2,x.2)).length=ps.length:=by simp
 rw [hm];rw [←hlen] at hn
 generalize (ps.map fun x=>(zb3 x.1 x.2,x.2))=rs at*
 unfold zlb
 have:zae [.sl .lent (pL rs),.fn ID.erase_fits_1 [] [.at_ (.int .i64 n)]]=some (.bool (!(rs.all fun x=>fitS n x.2))):=by
  rw [zdW,zc9]
  have hm:(rs.all fun x=>fitS n x.2)=((rs.map fun x=>(zb3 x.1 x.2,x.2)).all fun x=>fitS n x.2):=by rw [List.all_map]; rfl
  have hlen:(rs.map fun x=>(zb3 x.1 x.2,x.2)).length=rs.length:=by simp
  rw [hm];rw [←hlen] at hn
  generalize (rs.map fun x=>(zb3 x.1 x.2,x.2))=qs at*
  unfold zcc;obtain ⟨r,h1,i,rfl,h2⟩:=zsJ .lent qs hn n;rw [h1,zac,zbg,h2]
 rw [this,zac,zck,Bool.not_not]
theorem zFr {l:List D} {n:Nat} (h:l.length=n):cut 0 n l=l:=by subst h; exact zdq l
theorem erase_filled (n:Nat) (hn0:n < 100000) (tg:Tag) (ps:List Part) (hn:ps.length < 100000):zbT [.int .i64 n,.sl tg (pL ps)]=some (.sl .own (pL (ps.map fun x=>(Tag.fresh,zj6 n x.2)))):=by
 rw [zph,zc9]
 have hm:(ps.map fun x=>(Tag.fresh,zj6 n x.2))=((ps.map fun x=>(zb3 x.1 x.2,x.2)).map fun x=>(Tag.fresh,zj6 n x.2)):=by rw [List.map_map]; rfl
 have hlen:(ps.map fun x=>(zb3 x.1 x.2,x.2)).length=ps.length:=by simp
 rw [hm];rw [←hlen] at hn
 generalize (ps.map fun x=>(zb3 x.1 x.2,x.2))=rs at*
 unfold zh8
 let st:Nat→(Int×List D×List D×Int×Int×PUnit)×PUnit:=fun k=>(((n:Int),pL ((rs.take k).map fun x=>(Tag.fresh,zj6 n x.2)),pL rs,((pL rs).length:Int),(k:Int),PUnit.unit),PUnit.unit)
 have hst:st 0=(((n:Int),[],pL rs,((pL rs).length:Int),0,PUnit.unit),PUnit.unit):=rfl;rw [←hst]
 refine zcf st rs.length (by omega) ?_ ?_
 ·intro again k hk;dsimp only [st];obtain ⟨x,hx⟩:∃ x,rs[k]? =some x:=⟨_,List.getElem?_eq_getElem hk⟩
  have hd:decide ((k:Int) < ((pL rs).length:Int))=true:=by simp; omega
  have hfill:([]++List.take (Int.toNat (n:Int)) (uL x.2)++List.drop ((0:Nat)+List.length (List.take (Int.toNat (n:Int)) (uL x.2))) (List.replicate (Int.toNat (n:Int)) (D.int IntKind.u8 (0:Int))))=uL (zj6 n x.2):=by
   rw [Int.toNat_natCast,zxw,zrw,zxx,Nat.zero_add,zdK,List.nil_append,←zBr]; rfl
  rw [hd,za5,zaa (by omega),zag (by simpa using zcP hx),zfa,zaa (by omega),zaa (by rfl),zaa (by omega),zaa (by omega),zaa (by simp),zaa (zyG _),hfill,zaa (by simp [ziE]),zaa (by simp; omega),zaa (by rfl),
   zaR,zal (by omega) (by omega),zaa (by simp),zFr (by simp [ziE]),zBV]
  have:(rs.take (k+1)).map (fun x=>(Tag.fresh,zj6 n x.2))=(rs.take k).map (fun x=>(Tag.fresh,zj6 n x.2))++[(Tag.fresh,zj6 n x.2)]:=by rw [List.take_add_one,hx]; simp
  rw [this];rfl
 ·intro again;dsimp only [st]
  have hd:decide ((rs.length:Int) < ((pL rs).length:Int))=false:=by simp
  rw [hd,zar,zaa (by rfl),List.take_length,zaa (zlE (by intro x hx; obtain ⟨y,hy,rfl⟩:=List.mem_map.1 hx; rfl))]
def fP (ls:List (List Int)):List Part:=ls.map fun l=>(Tag.fresh,l)
@[simp] theorem zB1 (ls:List (List Int)):(fP ls).length=ls.length:=by simp [fP]
theorem ztE (ls:List (List Int)):(fP ls).map (·.2)=ls:=by
 unfold fP;rw [List.map_map];exact List.map_id ls
theorem zgq (ls:List (List Int)):(pL (fP ls)).all D.free=true:=zlE (by intro x hx; obtain ⟨y,_,rfl⟩:=List.mem_map.1 hx; rfl)
theorem zGP (ls:List (List Int)) (i:Nat) (l:List Int):(fP ls).set i (Tag.fresh,l)=fP (ls.set i l):=by simp [fP,List.map_set]
theorem zwI {ls:List (List Int)} {k:Nat} {l:List Int} (h:ls[k]? =some l):(fP ls)[k]? =some (Tag.fresh,l):=by simp [fP,h]
theorem zDv (ps:List Part):(ps.map fun x=>(Tag.fresh,zj6 32 x.2))=fP (zcx (ps.map (·.2))):=by simp [fP,zcx]
theorem zDw (ls:List (List Int)):miss ls=(zdk ls).map Int.ofNat:=rfl
theorem zzY (k:Nat) (hk:k < 100000):zaZ [.int .i64 k]=some (.int .u8 (pow8 (k % 255))):=by
 have h:=zwH (k % 255) (Nat.mod_lt _ (by omega))
 rw [zrU] at h ⊢;unfold zqA at h ⊢
 have e1:Int.tmod (k:Int) 255=((k % 255:Nat):Int):=by rw [Int.tmod_eq_emod_of_nonneg (by omega)]; omega
 have e2:Int.tmod ((k % 255:Nat):Int) 255=((k % 255:Nat):Int):=by rw [Int.tmod_eq_emod_of_nonneg (by omega)]; omega
 rw [e1];rw [e2] at h;exact h
theorem zGQ {a:Nat} (ha:a < 256):zeH [.int .u8 a]=some (.int .i64 (if logN a=255 then -1 else (logN a:Int))):=by
 rw [zxN];unfold zuY
 refine zlS (a:=(((a:Int),(1:Int),(0:Int),PUnit.unit),PUnit.unit)) (fun x=>(255 - x.1.2.2.1).toNat) (fun x=>some (D.int .i64 (if logF a (255 - x.1.2.2.1.toNat) x.1.2.1.toNat x.1.2.2.1.toNat=255 then -1 else (logF a (255 - x.1.2.2.1.toNat) x.1.2.1.toNat x.1.2.2.1.toNat:Int))))
  (fun x=>∃ n y:Nat,n≤255∧y < 256∧x=(((a:Int),(y:Int),(n:Int),PUnit.unit),PUnit.unit)) ?_ ⟨0,1,by omega,by omega,rfl⟩ (by simp)
 rintro again _ ⟨n,y,hn,hy,rfl⟩ hag
 dsimp only;rw [Int.toNat_natCast,Int.toNat_natCast]
 by_cases h:n < 255
 ·have e:255 - n=(255 - (n+1))+1:=by omega
  have hd:decide ((n:Int) < 255)=true:=by simp; omega
  rw [hd,za5,e]
  by_cases hya:y=a
  ·subst hya
   have:logF y (255 - (n+1)+1) y n=n:=by unfold logF; rw [if_pos rfl]
   rw [this,if_neg (by omega)]
   simp
  ·have hb:((y:Int) == (a:Int))=false:=by simp; omega
   have:logF a (255 - (n+1)+1) y n=logF a (255 - (n+1)) (dblN y) (n+1):=by rw [logF,if_neg hya]
   have hh:=hag (((a:Int),((dblN y:Nat):Int),((n+1:Nat):Int),PUnit.unit),PUnit.unit) ⟨n+1,dblN y,by omega,zkP hy,rfl⟩ (by dsimp only; omega)
   dsimp only at hh;rw [Int.toNat_natCast,Int.toNat_natCast] at hh
   rw [hb,zar,gf_double,zac,zbg,zaR,zal (by omega) (by omega),zxq hy,this]
   exact hh
 ·have:n=255:=by omega
  subst this;simp [logF]
theorem zEf {a:Int} (ha:Byt a):zcH [.int .u8 a]=some (.int .u8 (inv8 a)):=by
 obtain ⟨m,hm,rfl⟩:=zeK ha;rw [zxO];unfold zuZ inv8 invN;rw [Int.toNat_natCast]
 by_cases h0:m=0
 ·subst h0; simp
 ·obtain ⟨h1,h2⟩:=zE8 m hm h0
  have hb:((m:Int) == 0)=false:=by simp; omega
  rw [hb,zar,zGQ hm,zac,zbg,if_neg (by omega),if_neg h0,zaR,zal (by omega) (by omega),show (255:Int) - (logN m:Int)=((255 - logN m:Nat):Int) by omega,zzY _ (by omega),zac,zbg,zlT]
section
variable {ps:List Part} (h1:0 < ps.length) (h8:ps.length≤8) (hs:∀ x∈ps,x.2.length=32)
include h1 h8 hs
theorem by_q (tq tg:Tag) {q:List Int} (hq:q.length=32) {k:Nat} (hk:k < 8):
  zcy [.sl tq (uL q),.sl tg (pL ps),.int .i64 k]=some (.sl .own (uL (byQ q (ps.map (·.2)) k))):=by
 rw [zsD,zc6,zc9]
 have hm:(ps.map fun x=>(zb3 x.1 x.2,x.2)).map (·.2)=ps.map (·.2):=by rw [List.map_map]; rfl
 have hlen:(ps.map fun x=>(zb3 x.1 x.2,x.2)).length=ps.length:=by simp
 have hs':∀ x∈(ps.map fun x=>(zb3 x.1 x.2,x.2)),x.2.length=32:=by intro x hx; obtain ⟨y,hy,rfl⟩:=List.mem_map.1 hx; exact hs y hy
 rw [←hm];rw [←hlen] at h1 h8
 generalize (ps.map fun x=>(zb3 x.1 x.2,x.2))=rs at*
 unfold znn
 have hQ:=zBX (n:=32) .lent (ps:=rs) (by omega) h1 (by omega) hs'
 have hr:Byt (inv8 (pow8 k)):=zyF _
 have ha:(addL q (sumQ 32 (rs.map (·.2)))).length < 100000:=by unfold addL; split<;>simp<;>omega
 simp (disch:=first | omega | assumption | (simp; done) | fail) [-List.all_eq_true,hQ,zhW _ _ _ _ (show q.length < 100000 by omega),zwH k (by omega),zEf (zyD k),zi6 _ _ ha hr.1 hr.2]
 rfl
theorem zGR (tp tq tg:Tag) {p q:List Int} (hp:p.length=32) (hq:q.length=32) {j k:Nat} (hj:j < 8) (hk:k < 8):
  zcO [.sl tp (uL p),.sl tq (uL q),.sl tg (pL ps),.int .i64 j,.int .i64 k]=some (.tup [.sl .own (uL (twoX p q (ps.map (·.2)) j k)),.sl .own (uL (twoY p q (ps.map (·.2)) j k))]):=by
 rw [zsB,zc6,zc6,zc9]
 have hm:(ps.map fun x=>(zb3 x.1 x.2,x.2)).map (·.2)=ps.map (·.2):=by rw [List.map_map]; rfl
 have hlen:(ps.map fun x=>(zb3 x.1 x.2,x.2)).length=ps.length:=by simp
 have hs':∀ x∈(ps.map fun x=>(zb3 x.1 x.2,x.2)),x.2.length=32:=by intro x hx; obtain ⟨y,hy,rfl⟩:=List.mem_map.1 hx; exact hs y hy
 rw [←hm];rw [←hlen] at h1 h8
 generalize (ps.map fun x=>(zb3 x.1 x.2,x.2))=rs at*
 unfold znm
 have hQ:=zBX (n:=32) .lent (ps:=rs) (by omega) h1 (by omega) hs'
 have hP:=zBW (n:=32) .lent (ps:=rs) (by omega) h1 (by omega) hs'
 have hr:Byt (inv8 (xor8 (pow8 j) (pow8 k))):=zyF _
 have addl:∀ {a b:List Int},a.length≤32→(addL a b).length≤32:=by intro a b h; unfold addL; split<;>simp<;>omega
 have h2:(addL p (sumP 32 (rs.map (·.2)))).length≤32:=addl (by omega)
 have h3:(addL q (sumQ 32 (rs.map (·.2)))).length≤32:=addl (by omega)
 have h4:(addL (addL q (sumQ 32 (rs.map (·.2)))) ((addL p (sumP 32 (rs.map (·.2)))).map (mul8 · (pow8 k)))).length≤32:=addl h3
 simp (disch:=first | omega | assumption | (simp; done) | fail) [-List.all_eq_true,hQ,hP,zhW _ _ _ _ (show q.length < 100000 by omega),zhW _ _ _ _ (show p.length < 100000 by omega),zwH j (by omega),zwH k (by omega),zEf (zn5 _ _),
  zi6 _ _ (show (addL p (sumP 32 (rs.map (·.2)))).length < 100000 by omega) (ziD k).1 (ziD k).2,zhW _ _ _ _ (show (addL q (sumQ 32 (rs.map (·.2)))).length < 100000 by omega),zhW _ _ _ _ (show (addL p (sumP 32 (rs.map (·.2)))).length < 100000 by omega),
  zi6 _ _ (show (addL (addL q (sumQ 32 (rs.map (·.2)))) ((addL p (sumP 32 (rs.map (·.2)))).map (mul8 · (pow8 k)))).length < 100000 by omega) hr.1 hr.2]
 exact ⟨rfl,rfl⟩
end
end Wf

namespace Wf
open Go Go.RowKit Go.Proofs
set_option linter.unusedSimpArgs false
set_option linter.unusedVariables false
set_option maxHeartbeats 4000000
def solD:Option (List (List Int))→D
 | none=>.tup [.sl .own [],.bool false]
 | some o=>.tup [.sl .own (pL (fP o)),.bool true]
theorem pLs (ls:List (List Int)) (i:Nat) (l:List Int):(pL (fP ls)).set i (.sl .fresh (uL l))=pL (fP (ls.set i l)):=by rw [zp4,zGP]
theorem zxU {ls:List (List Int)} {i:Nat} (h:i < ls.length):(pL (fP ls))[i]? =some (.sl .fresh (uL (ls.getD i []))):=by
 have e:ls[i]? =some (ls.getD i []):=by rw [List.getD_eq_getElem?_getD,List.getElem?_eq_getElem h]; rfl
 exact zcP (zwI e)
theorem zDx (tp tq tg:Tag) (p q:List Int) {ps:List Part} (hn:ps.length < 100000):
  zb5 [.int .i64 32,.sl tp (uL p),.sl tq (uL q),.sl tg (pL ps)]=some (solD (zkT p q (ps.map (·.2)))):=by
 rw [zqk,zc6,zc6,zc9]
 have hm:(ps.map fun x=>(zb3 x.1 x.2,x.2)).map (·.2)=ps.map (·.2):=by rw [List.map_map]; rfl
 have hlen:(ps.map fun x=>(zb3 x.1 x.2,x.2)).length=ps.length:=by simp
 rw [←hm];rw [←hlen] at hn
 generalize (ps.map fun x=>(zb3 x.1 x.2,x.2))=rs at*
 clear hm hlen ps;unfold zjx zkT;have hmi:=zoI .lent rs hn;rw [zDw] at hmi
 have hpq:zbJ [.sl .full [.sl .lent (uL p),.sl .lent (uL q)]]=some (.sl .own (intL ((zdk [p,q]).map Int.ofNat))):=zoI .full [(Tag.lent,p),(Tag.lent,q)] (by simp)
 have hfi:=erase_fits .lent rs hn 32
 have hfa:(rs.all fun x=>fitS 32 x.2)=(rs.map (·.2)).all (fitS 32):=by rw [List.all_map]; rfl
 rw [hfa] at hfi
 have hfpq:zce [.int .i64 32,.sl .full [.sl .lent (uL p),.sl .lent (uL q)]]=some (.bool ([p,q].all (fitS 32))):=erase_fits .full [(Tag.lent,p),(Tag.lent,q)] (by simp) 32
 have hfl:zbT [.int .i64 32,.sl .lent (pL rs)]=some (.sl .own (pL (fP (zcx (rs.map (·.2)))))):=by
  have:=erase_filled 32 (by omega) .lent rs hn
  rw [zDv] at this;exact this
 have hl:(rs.map (·.2)).length=rs.length:=by simp
 generalize hls:rs.map (·.2)=ls at*
 have hfill:(zcx ls).length=rs.length:=by rw [zcV,hl]
 by_cases c1:rs.length < 1
 ·rw [if_pos (.inl (by omega))]
  simp (disch:=first | omega | assumption | (simp; done) | fail) [-List.all_eq_true,hmi,c1,solD]
 by_cases c2:8 < rs.length
 ·rw [if_pos (.inr (.inl (by omega)))]
  simp (disch:=first | omega | assumption | (simp; done) | fail) [-List.all_eq_true,hmi,c1,c2,solD]
 cases c3:ls.all (fitS 32)
 ·rw [if_pos (.inr (.inr (.inl rfl)))]
  simp (disch:=first | omega | assumption | (simp; done) | fail) [-List.all_eq_true,hmi,c1,c2,hfi,c3,solD]
 cases c4:[p,q].all (fitS 32)
 ·rw [if_pos (.inr (.inr (.inr rfl)))]
  simp (disch:=first | omega | assumption | (simp; done) | fail) [-List.all_eq_true,-List.all_cons,hmi,c1,c2,hfi,c3,hfpq,c4,solD]
 rw [if_neg (by rintro (e | e | e | e)<;>first | omega | cases e)]
 have hml:(zdk ls).length≤8:=by
  have:(zdk ls).length≤ls.length:=by unfold zdk; exact Nat.le_trans (List.length_filter_le _ _) (by simp)
  omega
 have hml2:=zuB p q
 have hml3:(zdk [p,q]).length≤2:=by rw [hml2]; split<;>split<;>omega
 by_cases c5:2 < (zdk ls).length+(zdk [p,q]).length
 ·rw [if_pos c5]
  simp (disch:=first | omega | assumption | (simp; done) | fail) [-List.all_eq_true,-List.all_cons,hmi,c1,c2,hfi,c3,hfpq,c4,hpq,zgP,zal,solD]
 rw [if_neg c5];rcases hmm:zdk ls with _ | ⟨j,_ | ⟨k,_ | ⟨m,t⟩⟩⟩
 ·rw [hmm] at c5 hmi
  simp (disch:=first | omega | assumption | (simp; done) | fail) [-List.all_eq_true,-List.all_cons,hmi,c1,c2,hfi,c3,hfpq,c4,hpq,zgP,zal,solD,hfl,zgq]
 ·have hj:=zen.1 (show j∈zdk ls by rw [hmm]; simp)
  rw [hmm] at c5 hmi;have hi1:intL [(j:Int)]=[.int .i64 j]:=rfl
  have c6:¬ 2 < 1+((zdk [p,q]).length:Int):=by simp at c5; omega
  have hg:=zxU (ls:=zcx ls) (i:=j) (by omega)
  dsimp only
  by_cases hp:0 < p.length
  ·rw [if_pos hp]
   have hP:=zBW (n:=32) .lent (ps:=fP (zcx ls)) (by omega) (by simp; omega) (by simp; omega) (by intro x hx; obtain ⟨l,hl,rfl⟩:=List.mem_map.1 hx; unfold zcx at hl; obtain ⟨y,_,rfl⟩:=List.mem_map.1 hl; exact ziE 32 y)
   rw [ztE] at hP
   have hpl:p.length=32:=by
    simp [fitS] at c4;rcases c4.1 with e | e
    ·rw [e] at hp; cases hp
    ·omega
   simp (disch:=first | omega | assumption | (simp; done) | fail) [-List.all_eq_true,-List.all_cons,hmi,c1,c2,hfi,c3,hfpq,c4,hpq,zgP,hi1,zal,solD,hfl,hP,hp,zhW,zag hg,pLs,zgq,hfill,c6,D.isAgg]
  ·rw [if_neg hp]
   have hq:q.length=32:=by
    have hp0:p=[]:=by cases p; rfl; simp at hp
    have hq0:¬ q=[]:=by intro e; rw [hml2,if_pos hp0,if_pos e] at c5; simp at c5
    simp [fitS] at c4;rcases c4.2 with e | e
    ·exact absurd e hq0
    ·omega
   have hQ:=by_q (ps:=fP (zcx ls)) (by simp; omega) (by simp; omega) (by intro x hx; obtain ⟨l,hl,rfl⟩:=List.mem_map.1 hx; unfold zcx at hl; obtain ⟨y,_,rfl⟩:=List.mem_map.1 hl; exact ziE 32 y) .lent .lent hq (k:=j) (by omega)
   rw [ztE] at hQ
   simp (disch:=first | omega | assumption | (simp; done) | fail) [-List.all_eq_true,-List.all_cons,hmi,c1,c2,hfi,c3,hfpq,c4,hpq,zgP,hi1,zal,solD,hfl,hQ,hp,zag hg,pLs,zgq,hfill,c6,D.isAgg]
 ·have hj:=zen.1 (show j∈zdk ls by rw [hmm]; simp)
  have hk:=zen.1 (show k∈zdk ls by rw [hmm]; simp)
  have hjk:j < k:=by have:=zm2 ls; rw [hmm] at this; simpa using this
  rw [hmm] at c5 hmi;have hi1:intL [(j:Int),(k:Int)]=[.int .i64 j,.int .i64 k]:=rfl
  have c6:¬ 2 < 2+((zdk [p,q]).length:Int):=by simp at c5; simp [c5]
  have hp0:¬ p=[]:=by intro e; rw [hml2,if_pos e] at c5; simp at c5
  have hq0:¬ q=[]:=by intro e; rw [hml2,if_pos e] at c5; simp at c5
  have hpl:p.length=32∧q.length=32:=by
   simp [fitS] at c4
   exact ⟨by rcases c4.1 with e | e; exact absurd e hp0; omega,by rcases c4.2 with e | e; exact absurd e hq0; omega⟩
  have hT:=zGR (ps:=fP (zcx ls)) (by simp; omega) (by simp; omega) (by intro x hx; obtain ⟨l,hl,rfl⟩:=List.mem_map.1 hx; unfold zcx at hl; obtain ⟨y,_,rfl⟩:=List.mem_map.1 hl; exact ziE 32 y) .lent .lent .lent hpl.1 hpl.2 (j:=j) (k:=k) (by omega) (by omega)
  rw [ztE] at hT
  have hg:=zxU (ls:=zcx ls) (i:=j) (by omega)
  have hg2:=zxU (ls:=(zcx ls).set j (twoX p q (zcx ls) j k)) (i:=k) (by simp; omega)
  dsimp only
  simp (disch:=first | omega | assumption | (simp; done) | fail) [-List.all_eq_true,-List.all_cons,hmi,c1,c2,hfi,c3,hfpq,c4,hpq,zgP,hi1,zal,solD,hfl,hT,zag hg,zag hg2,pLs,zgq,hfill,c6,D.isAgg]
 ·rw [hmm] at c5; simp at c5; omega
end Wf

namespace Wf
open Go Go.RowKit Go.Proofs
set_option linter.unusedSimpArgs false
set_option linter.unusedVariables false
def zpA (b:Int) (k:Nat) (s:Int×Int):Int×Int:=
  (if IntKind.i64.wrap (s.1*2) > 255 then bits .xor .i64 (IntKind.i64.wrap (s.1*2)) 285 else IntKind.i64.wrap (s.1*2),
   if bits .and .u8 (b.fdiv (2 ^ min k 8)) 1=1 then bits .xor .i64 s.2 s.1 else s.2)
def zeC (a b:Int):Nat→Int×Int
 | 0=>(IntKind.i64.wrap a,0)
 | k+1=>zpA b k (zeC a b k)
def ze1 (a b:Int):Int:=IntKind.u8.wrap (zeC a b 8).2
theorem zB2 (a b:Int):zaP [.int .u8 a,.int .u8 b]=some (.int .u8 (ze1 a b)):=by
 rw [zms];unfold zfT;rw [zaR]
 refine zcf (fun k=>((b,(zeC a b k).1,(zeC a b k).2,(k:Int),PUnit.unit),PUnit.unit)) 8 (by omega) ?_ ?_
 ·intro again k hk;dsimp only
  have hd:decide ((k:Int) < 8)=true:=by simp; omega
  rw [hd,za5,zaR,zC0 (by omega) (by omega),zaa (by omega),zaR,zaR,Int.toNat_natCast]
  have hs:zeC a b (k+1)=zpA b k (zeC a b k):=rfl
  have hk1:IntKind.i64.wrap ((k:Int)+1)=((k+1:Nat):Int):=by rw [zal (by omega) (by omega)]; rfl
  rw [hs];unfold zpA
  by_cases hb:bits .and .u8 (b.fdiv (2 ^ min k 8)) 1=1
  ·have hb':(bits .and .u8 (b.fdiv (2 ^ min k 8)) 1 == 1)=true:=by simp [hb]
   rw [hb',za5,zaR,zaR,if_pos hb]
   by_cases hx:IntKind.i64.wrap ((zeC a b k).1*2) > 255
   ·have hx':decide (IntKind.i64.wrap ((zeC a b k).1*2) > 255)=true:=by simp [hx]
    rw [hx',za5,zaR,zaR,hk1,if_pos hx]
   ·have hx':decide (IntKind.i64.wrap ((zeC a b k).1*2) > 255)=false:=by simp; omega
    rw [hx',zar,zaR,hk1,if_neg hx]
  ·have hb':(bits .and .u8 (b.fdiv (2 ^ min k 8)) 1 == 1)=false:=by simp [hb]
   rw [hb',zar,zaR,if_neg hb]
   by_cases hx:IntKind.i64.wrap ((zeC a b k).1*2) > 255
   ·have hx':decide (IntKind.i64.wrap ((zeC a b k).1*2) > 255)=true:=by simp [hx]
    rw [hx',za5,zaR,zaR,hk1,if_pos hx]
   ·have hx':decide (IntKind.i64.wrap ((zeC a b k).1*2) > 255)=false:=by simp; omega
    rw [hx',zar,zaR,hk1,if_neg hx]
 ·intro again;dsimp only
  have hd:decide (((8:Nat):Int) < 8)=false:=by simp
  rw [hd,zar,zaR];rfl
def zee:Nat→Int
 | 0=>1
 | k+1=>ze1 (zee k) 2
theorem zFs (k:Nat) (hk:k < 255):zbH [.int .i64 k]=some (.int .u8 (zee k)):=by
 rw [zmu];unfold zfU
 have e1:Int.tmod (k:Int) 255=k:=by rw [Int.tmod_eq_emod_of_nonneg (by omega),Int.emod_eq_of_lt (by omega) (by omega)]
 have hd:decide ((k:Int) < 0)=false:=by simp
 rw [zaR,e1,hd,zar]
 let st:Nat→(Int×Int×PUnit)×PUnit:=fun j=>(((k:Int) - (j:Int),zee j,PUnit.unit),PUnit.unit)
 have hst:st 0=(((k:Int),1,PUnit.unit),PUnit.unit):=by simp [st,zee]
 rw [←hst]
 refine zcf st k (by omega) ?_ ?_
 ·intro again j hj;dsimp only [st]
  have hd:decide ((k:Int) - (j:Int) > 0)=true:=by simp; omega
  rw [hd,za5,zB2,zac,zbg,zaR,zal (by omega) (by omega)]
  have:(k:Int) - (j:Int) - 1=(k:Int) - ((j+1:Nat):Int):=by omega
  rw [this];rfl
 ·intro again;dsimp only [st]
  have hd:decide ((k:Int) - (k:Int) > 0)=false:=by simp
  rw [hd,zar]
def mixL (f:Int→Int→Int) (acc p:List Int) (j:Nat):List Int:=(List.zipWith f acc p).take j++acc.drop j
theorem zyX {f:Int→Int→Int} {acc p:List Int} (h:p.length=acc.length) {j:Nat} (hj:j≤acc.length):(mixL f acc p j).length=acc.length:=by
 unfold mixL; simp [h]; omega
theorem zyY {f:Int→Int→Int} {acc p:List Int} (h:p.length=acc.length) {j:Nat} (hj:j < acc.length):(mixL f acc p j)[j]? =some acc[j]:=by
 unfold mixL
 rw [List.getElem?_append_right (by simp; omega)]
 simp [h]
 rw [show j - min j acc.length=0 by omega]
 simp [hj]
theorem zyZ {f:Int→Int→Int} {acc p:List Int} (h:p.length=acc.length) {j:Nat} (hj:j < acc.length):(mixL f acc p j).set j (f acc[j] (p[j]'(by omega)))=mixL f acc p (j+1):=by
 unfold mixL
 have hl:((List.zipWith f acc p).take j).length=j:=by simp [h]; omega
 rw [List.set_append_right _ _ (by omega),hl,Nat.sub_self,List.take_add_one,List.drop_eq_getElem_cons hj,List.set_cons_zero]
 simp [List.getElem?_zipWith,hj,h]
theorem zy0 {f:Int→Int→Int} {acc p:List Int} (h:p.length=acc.length):mixL f acc p acc.length=List.zipWith f acc p:=by
 unfold mixL
 rw [List.drop_of_length_le (Nat.le_refl _),List.append_nil,List.take_of_length_le (by simp; omega)]
theorem zwJ (f:Int→Int→Int) (acc p:List Int):mixL f acc p 0=acc:=by simp [mixL]
def sumR (F:Nat→Int→Int) (n:Nat) (ls:List (List Int)):Nat→List Int
 | 0=>List.replicate n 0
 | k+1=>List.zipWith (fun a x=>xor8 a (F k x)) (sumR F n ls k) (ls.getD k [])
theorem zvd {F:Nat→Int→Int} {n:Nat} {ls:List (List Int)} (h:∀ l∈ls,l.length=n):∀ {k:Nat},k≤ls.length→(sumR F n ls k).length=n
 | 0,_=>by simp [sumR]
 | k+1,hk=>by
  have e:ls.getD k []=ls[k]:=by simp [List.getD_eq_getElem?_getD,List.getElem?_eq_getElem (show k < ls.length by omega)]
  simp only [sumR,List.length_zipWith,e,zvd h (show k≤ls.length by omega),h _ (List.getElem_mem (show k < ls.length by omega))]
  omega
def refP (n:Nat) (ls:List (List Int)):List Int:=sumR (fun _ x=>x) n ls ls.length
def refQ (n:Nat) (ls:List (List Int)):List Int:=sumR (fun k x=>ze1 x (zee k)) n ls ls.length
theorem zwK (tg:Tag) {ps:List Part} {n:Nat} (h0:0 < ps.length) (h1:ps.length < 100000) (h:∀ x∈ps,x.2.length=n):zaH [.sl tg (pL ps)]=some (.bool true):=by
 rw [zko,zc9]
 have hlen:(ps.map fun x=>(zb3 x.1 x.2,x.2)).length=ps.length:=by simp
 have hl':∀ x∈(ps.map fun x=>(zb3 x.1 x.2,x.2)),x.2.length=n:=by intro x hx; obtain ⟨y,hy,rfl⟩:=List.mem_map.1 hx; exact h y hy
 rw [←hlen] at h0 h1
 generalize (ps.map fun x=>(zb3 x.1 x.2,x.2))=rs at*
 unfold zeT;obtain ⟨x0,hx0⟩:∃ x,rs[0]? =some x:=⟨_,List.getElem?_eq_getElem h0⟩
 refine zcf (fun k=>((pL rs,pL rs,((pL rs).length:Int),(k:Int),PUnit.unit),PUnit.unit)) rs.length h1 ?_ ?_
 ·intro again k hk;dsimp only;obtain ⟨x,hx⟩:∃ x,rs[k]? =some x:=⟨_,List.getElem?_eq_getElem hk⟩
  have hd:decide ((k:Int) < ((pL rs).length:Int))=true:=by simp; omega
  have hb:(((uL x.2).length:Int) != ((uL x0.2).length:Int))=false:=by simp [hl' x (List.mem_of_getElem? hx),hl' x0 (List.mem_of_getElem? hx0)]
  rw [hd,za5,zaa (by omega),zag (by simpa using zcP hx),zfa,zag (zcP hx0),zfa,hb,zar,zaR,zal (by omega) (by omega)]
  rfl
 ·intro again
  have hd:decide ((rs.length:Int) < ((pL rs).length:Int))=false:=by simp
  have hd2:decide (((pL rs).length:Int) > 0)=true:=by simp; omega
  dsimp only;rw [hd,zar,hd2]
theorem zHA (tg:Tag) {ps:List Part} {n:Nat} (hn:n < 100000) (h0:0 < ps.length) (h1:ps.length < 100000) (h:∀ x∈ps,x.2.length=n):zbR [.sl tg (pL ps)]=some (.sl .own (uL (refP n (ps.map (·.2))))):=by
 rw [zoB,zc9]
 have hlen:(ps.map fun x=>(zb3 x.1 x.2,x.2)).length=ps.length:=by simp
 have hm:(ps.map fun x=>(zb3 x.1 x.2,x.2)).map (·.2)=ps.map (·.2):=by rw [List.map_map]; rfl
 have hl':∀ x∈(ps.map fun x=>(zb3 x.1 x.2,x.2)),x.2.length=n:=by intro x hx; obtain ⟨y,hy,rfl⟩:=List.mem_map.1 hx; exact h y hy
 rw [←hlen] at h0 h1;rw [←hm]
 generalize (ps.map fun x=>(zb3 x.1 x.2,x.2))=rs at*
 clear hm hlen h ps;unfold zht;obtain ⟨x0,hx0⟩:∃ x,rs[0]? =some x:=⟨_,List.getElem?_eq_getElem h0⟩
 have hls:∀ l∈rs.map (·.2),l.length=n:=by intro l hl; obtain ⟨y,hy,rfl⟩:=List.mem_map.1 hl; exact hl' y hy
 rw [zwK .lent h0 h1 hl',zac,zck,Bool.not_true,zar,zag (zcP hx0),zfa,zaa (by rfl),zdK,hl' x0 (List.mem_of_getElem? hx0),zaa (by omega),zaa (by omega),zaa (by simp),Int.toNat_natCast,zrw]
 let st:Nat→(List D×List D×Int×Int×PUnit)×PUnit:=fun k=>((uL (sumR (fun _ x=>x) n (rs.map (·.2)) k),pL rs,((pL rs).length:Int),(k:Int),PUnit.unit),PUnit.unit)
 have hst:st 0=((uL (List.replicate n 0),pL rs,((pL rs).length:Int),0,PUnit.unit),PUnit.unit):=rfl;rw [←hst];refine zcf st rs.length h1 ?_ ?_
 ·intro again k hk;dsimp only [st];obtain ⟨x,hx⟩:∃ x,rs[k]? =some x:=⟨_,List.getElem?_eq_getElem hk⟩;have hxl:=hl' x (List.mem_of_getElem? hx)
  have hd:decide ((k:Int) < ((pL rs).length:Int))=true:=by simp; omega
  have hsl:=zvd (F:=fun _ x=>x) hls (k:=k) (by simp; omega)
  have hxe:x.2.length=(sumR (fun _ x=>x) n (rs.map (·.2)) k).length:=by omega
  rw [hd,za5,zaa (by omega),zag (by simpa using zcP hx),zfa,zaa (by rfl)]
  let s2:Nat→(List D×List D×Int×Int×(Tag×List D)×Int×Int×PUnit)×PUnit:=fun j=>((uL (mixL (fun a x=>xor8 a x) (sumR (fun _ x=>x) n (rs.map (·.2)) k) x.2 j),pL rs,((pL rs).length:Int),(k:Int),(x.1,uL x.2),((uL x.2).length:Int),(j:Int),PUnit.unit),PUnit.unit)
  have hs2:s2 0=((uL (sumR (fun _ x=>x) n (rs.map (·.2)) k),pL rs,((pL rs).length:Int),(k:Int),(x.1,uL x.2),((uL x.2).length:Int),0,PUnit.unit),PUnit.unit):=by simp only [s2,zwJ]; rfl
  rw [←hs2]
  refine zcf s2 x.2.length (by omega) ?_ ?_
  ·intro again2 j hj;dsimp only [s2]
   have hd:decide ((j:Int) < ((uL x.2).length:Int))=true:=by simp; omega
   have g1:x.2[j]? =some x.2[j]:=List.getElem?_eq_getElem hj
   have g2:=zyY (f:=fun a x=>xor8 a x) hxe (j:=j) (by omega)
   have ml:=zyX (f:=fun a x=>xor8 a x) hxe (j:=j) (by omega)
   have ms:=zyZ (f:=fun a x=>xor8 a x) hxe (j:=j) (by omega)
   rw [hd,za5,zaa (by omega),zag (by simpa using zjW g1),zbg,zaa (by omega),zaa (by rw [zdK,ml]; omega),zag (by simpa using zjW g2),zbg,zaR,zaa (by omega),zaa (by rw [zdK,ml]; omega),zag (by simpa using zjW g2),zaa (by rfl),zaR,
    zal (by omega) (by omega),zaa (by simp),Nat.zero_add,zBt,show Int.toNat (j:Int)=j from rfl,ms]
   rfl
  ·intro again2;dsimp only [s2]
   have hd:decide ((x.2.length:Int) < ((uL x.2).length:Int))=false:=by simp
   have me:mixL (fun a x=>xor8 a x) (sumR (fun _ x=>x) n (rs.map (·.2)) k) x.2 x.2.length=sumR (fun _ x=>x) n (rs.map (·.2)) (k+1):=by
    rw [hxe,zy0 hxe]
    have:(rs.map (·.2)).getD k []=x.2:=by simp [List.getD_eq_getElem?_getD,hx]
    simp only [sumR,this]
   rw [hd,zar,zaR,zal (by omega) (by omega),zaa (by rfl),me]
   rfl
 ·intro again;dsimp only [st]
  have hd:decide ((rs.length:Int) < ((pL rs).length:Int))=false:=by simp
  rw [hd,zar,zaa (by rfl),zaa (zhc _)]
  simp [refP]
theorem zHB (tg:Tag) {ps:List Part} {n:Nat} (hn:n < 100000) (h0:0 < ps.length) (h1:ps.length < 255) (h:∀ x∈ps,x.2.length=n):zbS [.sl tg (pL ps)]=some (.sl .own (uL (refQ n (ps.map (·.2))))):=by
 rw [zoD,zc9]
 have hlen:(ps.map fun x=>(zb3 x.1 x.2,x.2)).length=ps.length:=by simp
 have hm:(ps.map fun x=>(zb3 x.1 x.2,x.2)).map (·.2)=ps.map (·.2):=by rw [List.map_map]; rfl
 have hl':∀ x∈(ps.map fun x=>(zb3 x.1 x.2,x.2)),x.2.length=n:=by intro x hx; obtain ⟨y,hy,rfl⟩:=List.mem_map.1 hx; exact h y hy
 rw [←hlen] at h0 h1;rw [←hm]
 generalize (ps.map fun x=>(zb3 x.1 x.2,x.2))=rs at*
 clear hm hlen h ps;unfold zhw;obtain ⟨x0,hx0⟩:∃ x,rs[0]? =some x:=⟨_,List.getElem?_eq_getElem h0⟩
 have hls:∀ l∈rs.map (·.2),l.length=n:=by intro l hl; obtain ⟨y,hy,rfl⟩:=List.mem_map.1 hl; exact hl' y hy
 rw [zwK .lent h0 (by omega) hl',zac,zck,Bool.not_true,zar,zag (zcP hx0),zfa,zaa (by rfl),zdK,hl' x0 (List.mem_of_getElem? hx0),zaa (by omega),zaa (by omega),zaa (by simp),Int.toNat_natCast,zrw]
 let st:Nat→(List D×List D×Int×Int×PUnit)×PUnit:=fun k=>((uL (sumR (fun k x=>ze1 x (zee k)) n (rs.map (·.2)) k),pL rs,((pL rs).length:Int),(k:Int),PUnit.unit),PUnit.unit)
 have hst:st 0=((uL (List.replicate n 0),pL rs,((pL rs).length:Int),0,PUnit.unit),PUnit.unit):=rfl;rw [←hst]
 refine zcf st rs.length (by omega) ?_ ?_
 ·intro again k hk;dsimp only [st];obtain ⟨x,hx⟩:∃ x,rs[k]? =some x:=⟨_,List.getElem?_eq_getElem hk⟩;have hxl:=hl' x (List.mem_of_getElem? hx)
  have hd:decide ((k:Int) < ((pL rs).length:Int))=true:=by simp; omega
  have hsl:=zvd (F:=fun k x=>ze1 x (zee k)) hls (k:=k) (by simp; omega)
  have hxe:x.2.length=(sumR (fun k x=>ze1 x (zee k)) n (rs.map (·.2)) k).length:=by omega
  rw [hd,za5,zaa (by omega),zag (by simpa using zcP hx),zfa,zFs k (by omega),zac,zbg,zaa (by rfl)]
  let s2:Nat→(List D×Int×List D×Int×Int×(Tag×List D)×Int×Int×PUnit)×PUnit:=fun j=>((uL (mixL (fun a x=>xor8 a (ze1 x (zee k))) (sumR (fun k x=>ze1 x (zee k)) n (rs.map (·.2)) k) x.2 j),zee k,pL rs,((pL rs).length:Int),(k:Int),(x.1,uL x.2),((uL x.2).length:Int),(j:Int),PUnit.unit),PUnit.unit)
  have hs2:s2 0=((uL (sumR (fun k x=>ze1 x (zee k)) n (rs.map (·.2)) k),zee k,pL rs,((pL rs).length:Int),(k:Int),(x.1,uL x.2),((uL x.2).length:Int),0,PUnit.unit),PUnit.unit):=by simp only [s2,zwJ]; rfl
  rw [←hs2]
  refine zcf s2 x.2.length (by omega) ?_ ?_
  ·intro again2 j hj;dsimp only [s2]
   have hd:decide ((j:Int) < ((uL x.2).length:Int))=true:=by simp; omega
   have g1:x.2[j]? =some x.2[j]:=List.getElem?_eq_getElem hj
   have g2:=zyY (f:=fun a x=>xor8 a (ze1 x (zee k))) hxe (j:=j) (by omega)
   have ml:=zyX (f:=fun a x=>xor8 a (ze1 x (zee k))) hxe (j:=j) (by omega)
   have ms:=zyZ (f:=fun a x=>xor8 a (ze1 x (zee k))) hxe (j:=j) (by omega)
   rw [hd,za5,zaa (by omega),zag (by simpa using zjW g1),zbg,zaa (by omega),zaa (by rw [zdK,ml]; omega),zag (by simpa using zjW g2),zbg,zB2,zac,zbg,zaR,zaa (by omega),zaa (by rw [zdK,ml]; omega),zag (by simpa using zjW g2),zaa (by rfl),zaR,
    zal (by omega) (by omega),zaa (by simp),Nat.zero_add,zBt,show Int.toNat (j:Int)=j from rfl,ms]
   rfl
  ·intro again2;dsimp only [s2]
   have hd:decide ((x.2.length:Int) < ((uL x.2).length:Int))=false:=by simp
   have me:mixL (fun a x=>xor8 a (ze1 x (zee k))) (sumR (fun k x=>ze1 x (zee k)) n (rs.map (·.2)) k) x.2 x.2.length=sumR (fun k x=>ze1 x (zee k)) n (rs.map (·.2)) (k+1):=by
    rw [hxe,zy0 hxe]
    have:(rs.map (·.2)).getD k []=x.2:=by simp [List.getD_eq_getElem?_getD,hx]
    simp only [sumR,this]
   rw [hd,zar,zaR,zal (by omega) (by omega),zaa (by rfl),me]
   rfl
 ·intro again;dsimp only [st]
  have hd:decide ((rs.length:Int) < ((pL rs).length:Int))=false:=by simp
  rw [hd,zar,zaa (by rfl),zaa (zhc _)]
  simp [refQ]
def zmM (n:Int) (i:Nat):Int:=IntKind.u8.wrap (IntKind.i64.wrap (n+IntKind.i64.wrap ((i:Int)*bits .or .i64 (IntKind.i64.wrap (n.tdiv 7)) 1)))
def secN (n:Int):List Int:=if n % 11=10 then List.replicate 32 0 else (List.range 32).map (zmM n)
theorem zDy (n:Int):Sec (secN n):=by
 unfold secN;split
 ·exact zkQ
 ·refine ⟨by simp,fun x h=>?_⟩
  obtain ⟨i,_,rfl⟩:=List.mem_map.1 h;exact zrt _
theorem zr5 (n:Int):zbi [.int .i64 n]=some (.sl .own (uL (secN n))):=by
 rw [zkl];unfold zeS
 rw [zpy n 11 (by omega) (by omega),zac,zbg]
 unfold secN
 by_cases h:n % 11=10
 ·rw [if_pos h]; simp [h]; rfl
 ·rw [if_neg h]
  have hb:(n % 11 == 10)=false:=by simp [h]
  rw [hb,zar]
  have:=zcf (R:=D) (α:=(Int×List D×Int×Int×PUnit)×PUnit)
   (fun k=>((n,uL ((List.range 32).map fun i=>if i < k then zmM n i else 0),32,(k:Int),PUnit.unit),PUnit.unit)) 32 (by omega)
   (B:=?B) (r:=some (.sl .own (uL ((List.range 32).map (zmM n))))) ?_ ?_
  ·exact this
  ·intro again k hk;dsimp only
   have hd:decide ((k:Int) < 32)=true:=by simp; omega
   have hg:((List.range 32).map fun i=>if i < k then zmM n i else 0)[k]? =some 0:=by simp [hk]
   have hv:zmM n k=IntKind.u8.wrap (IntKind.i64.wrap (n+IntKind.i64.wrap ((k:Int)*bits .or .i64 (IntKind.i64.wrap (n.tdiv 7)) 1))):=rfl
   rw [hd,za5,zaR,zaR,zaR,zaR,zaR,←hv,zaa (by omega),zaa (by simp; omega),zag (by simpa using zjW hg)]
   rw [zaa (by rfl),zaR,zal (n:=(k:Int)+1) (by omega) (by omega),zaa (by simp)]
   have:(uL ((List.range 32).map fun i=>if i < k then zmM n i else 0)).set (0+Int.toNat (k:Int)) (.int .u8 (zmM n k))=uL ((List.range 32).map fun i=>if i < k+1 then zmM n i else 0):=by
    rw [zBt];congr 1;apply List.ext_getElem?;intro j;rw [List.getElem?_set]
    by_cases hj:j < 32
    ·by_cases hjk:k=j
     ·subst hjk; simp [hj]
     ·have:(0+Int.toNat (k:Int))≠j:=by simp; exact hjk
      rw [if_neg this];simp [hj]
      by_cases h1:j < k
      ·rw [if_pos h1,if_pos (by omega)]
      ·rw [if_neg h1,if_neg (by omega)]
    ·simp [hj];omega
   rw [this];rfl
  ·intro again
   have e:((List.range 32).map fun i=>if i < 32 then zmM n i else 0)=(List.range 32).map (zmM n):=by
    apply List.map_congr_left; intro i hi; rw [if_pos (List.mem_range.1 hi)]
   dsimp only;rw [e];simp
def secL (l:List Int) (n:Nat):List (List Int):=(List.range n).map fun (i:Nat)=>secN (l.getD i (3*(i:Int)))
theorem zy1 (l:List Int) (n:Nat):∀ x∈secL l n,Sec x:=by
 intro x hx; obtain ⟨i,_,rfl⟩:=List.mem_map.1 hx; exact zDy _
@[simp] theorem zHf (l:List Int) (n:Nat):(secL l n).length=n:=by simp [secL]
theorem zFt (ls:List (List Int)) (l:List Int):pL (fP ls)++[.sl .fresh (uL l)]=pL (fP (ls++[l])):=by simp [pL,fP]
theorem zwL (tg:Tag) (l:List Int) {n:Nat} (hn:n < 100000):zbk [.sl tg (intL l),.int .i64 n]=some (.sl .own (pL (fP (secL l n)))):=by
 rw [zjG,zrr];unfold zex
 let st:Nat→(List D×Int×List D×Int×PUnit)×PUnit:=fun k=>((intL l,(n:Int),pL (fP (secL l k)),(k:Int),PUnit.unit),PUnit.unit)
 show zb7 _ (st 0)=_;refine zcf st n hn ?_ ?_
 ·intro again k hk;dsimp only [st]
  have hd:decide ((k:Int) < (n:Int))=true:=by simp; omega
  have hs:secL l (k+1)=secL l k++[secN (l.getD k (3*(k:Int)))]:=by unfold secL; rw [List.range_succ,List.map_append]; rfl
  rw [hd,za5,zaR,zgP,hs,←zFt]
  by_cases hkl:k < l.length
  ·have hd2:decide ((k:Int) < (l.length:Int))=true:=by simp; omega
   have hg:l.getD k (3*(k:Int))=l[k]:=by simp [List.getD_eq_getElem?_getD,hkl]
   rw [hd2,za5,zaa (by omega),zag (by simpa using zCX hkl),zbg,zr5,zac,zbn,zaa (by omega),zaa (by simp; omega),zaa (by rfl),zaR,zal (n:=(k:Int)+1) (by omega) (by omega),zdq,zaa (by simp),hg]
   rfl
  ·have hd2:decide ((k:Int) < (l.length:Int))=false:=by simp; omega
   have hg:l.getD k (3*(k:Int))=3*(k:Int):=by simp [List.getD_eq_getElem?_getD,List.getElem?_eq_none (show l.length≤k by omega)]
   rw [hd2,zar,zal (n:=3*(k:Int)) (by omega) (by omega),zr5,zac,zbn,zaa (by omega),zaa (by simp; omega),zaa (by rfl),zaR,zal (n:=(k:Int)+1) (by omega) (by omega),zdq,zaa (by simp),hg]
   rfl
 ·intro again;dsimp only [st]
  have hd:decide ((n:Int) < (n:Int))=false:=by simp
  rw [hd,zar,zaa (by rfl),zaa (zgq _)]
def zl1 (b:Nat) (k:Nat) (s:Nat×Nat):Nat×Nat:=
 (if 255 < s.1*2 then (s.1*2) ^^^ 285 else s.1*2,if b / 2 ^ k % 2=1 then s.2 ^^^ s.1 else s.2)
def zcJ (a b:Nat):Nat→Nat×Nat
 | 0=>(a,0)
 | k+1=>zl1 b k (zcJ a b k)
theorem zFu {m n k:Nat} (hm:m < 2 ^ k) (hn:n < 2 ^ k):m ^^^ n < 2 ^ k:=Nat.xor_lt_two_pow hm hn
theorem zGS (m n:Nat) (hm:m < 1024) (hn:n < 1024):bits .xor .i64 (m:Int) (n:Int)=((m ^^^ n:Nat):Int):=by
 have h:m ^^^ n < 2 ^ 10:=zFu (by omega) (by omega)
 have e:((BitVec.ofInt 64 (m:Int)) ^^^ (BitVec.ofInt 64 (n:Int))).toNat=m ^^^ n:=by
  rw [BitVec.toNat_xor]
  simp [Nat.mod_eq_of_lt (show m < 18446744073709551616 by omega),Nat.mod_eq_of_lt (show n < 18446744073709551616 by omega)]
 show IntKind.i64.wrap (((BitVec.ofInt 64 (m:Int)) ^^^ (BitVec.ofInt 64 (n:Int))).toNat:Int)=_;rw [e]
 exact zal (by omega) (by omega)
theorem zr6 {a b:Nat} (ha:a < 256) (hb:b < 256):∀ k,k≤8→(zeC a b k).1=((zcJ a b k).1:Int)∧(zeC a b k).2=((zcJ a b k).2:Int)∧(zcJ a b k).1 < 256∧(zcJ a b k).2 < 256
 | 0,_=>⟨zal (by omega) (by omega),rfl,ha,by show 0 < 256; omega⟩
 | k+1,hk=>by
  obtain ⟨h1,h2,h3,h4⟩:=zr6 ha hb k (by omega)
  have w:IntKind.i64.wrap (((zcJ a b k).1:Int)*2)=(((zcJ a b k).1*2:Nat):Int):=by rw [zal (by omega) (by omega)]; omega
  have hx:(zcJ a b k).2 ^^^ (zcJ a b k).1 < 256:=zn4 h4 h3
  have hbk:bits .and .u8 ((b:Int).fdiv (2 ^ min k 8)) 1=((b / 2 ^ k % 2:Nat):Int):=by
   have e:((b:Int).fdiv (2 ^ min k 8))=((b / 2 ^ k:Nat):Int):=by
    rw [show min k 8=k by omega,Int.fdiv_eq_ediv_of_nonneg _ (by exact_mod_cast Nat.zero_le (2 ^ k))]
    simp
   rw [e];exact and1 _ (Nat.lt_of_le_of_lt (Nat.div_le_self _ _) hb)
  have hd:∀ x < 256,255 < x*2→(x*2) ^^^ 285 < 256:=by decide+kernel
  show (zpA b k (zeC a b k)).1=((zl1 b k (zcJ a b k)).1:Int)∧(zpA b k (zeC a b k)).2=((zl1 b k (zcJ a b k)).2:Int)∧(zl1 b k (zcJ a b k)).1 < 256∧(zl1 b k (zcJ a b k)).2 < 256;unfold zpA zl1
  rw [h1,h2,hbk,w,zGS _ _ (by omega) (by omega)]
  have hx2:=zGS ((zcJ a b k).1*2) 285 (by omega) (by omega)
  refine ⟨?_,?_,?_,?_⟩
  ·dsimp only;split
   ·rw [if_pos (by omega)]; exact hx2
   ·rw [if_neg (by omega)]
  ·dsimp only;split
   ·rw [if_pos (by omega)]
   ·rw [if_neg (by omega)]
  ·dsimp only;split
   ·exact hd _ h3 (by assumption)
   ·omega
  ·dsimp only;split
   ·exact hx
   ·exact h4
theorem ztF {a b:Nat} (ha:a < 256) (hb:b < 256):ze1 a b=((zcJ a b 8).2:Int)∧(zcJ a b 8).2 < 256:=by
 obtain ⟨_,h2,_,h4⟩:=zr6 ha hb 8 (Nat.le_refl _);unfold ze1;rw [h2]
 exact ⟨zxp (by omega) (by omega),h4⟩
def zpB:Nat→Nat
 | 0=>1
 | k+1=>(zcJ (zpB k) 2 8).2
theorem ztG:∀ k,zee k=(zpB k:Int)∧zpB k < 256
 | 0=>⟨rfl,by decide⟩
 | k+1=>by
  obtain ⟨h1,h2⟩:=ztG k;show ze1 (zee k) 2=((zcJ (zpB k) 2 8).2:Int)∧(zcJ (zpB k) 2 8).2 < 256
  have:=ztF h2 (show 2 < 256 by omega)
  rw [show ((2:Nat):Int)=2 from rfl] at this
  rw [h1]; exact this
theorem zwM:∀ k < 7,∀ x < 256,(zcJ x (zpB k) 8).2=mN x (powN k):=by decide+kernel
theorem zxV {x:Int} (h:Byt x) {k:Nat} (hk:k < 7):ze1 x (zee k)=mul8 x (pow8 k):=by
 obtain ⟨m,hm,rfl⟩:=zeK h;obtain ⟨h1,h2⟩:=ztG k;have e1:=(ztF hm h2).1;have e2:=(zem hm (zh0 k)).1;have e3:=zwM k hk m hm;rw [h1,zlT,e1,e2,e3]
theorem zB3 {F:Nat→Int→Int} {f:Nat→Int} {ls:List (List Int)} (h:∀ l∈ls,Sec l) (hF:∀ k x,k < ls.length→Byt x→F k x=mul8 x (f k)):∀ {k:Nat},k≤ls.length→sumR F 32 ls k=sumK f 32 ls k
 | 0,_=>rfl
 | k+1,hk=>by
  have hs:=h _ (zdB (show k < ls.length by omega))
  show List.zipWith (fun a x=>xor8 a (F k x)) (sumR F 32 ls k) (ls.getD k [])=List.zipWith xor8 (sumK f 32 ls k) ((ls.getD k []).map (mul8 · (f k)))
  rw [zB3 h hF (by omega),List.zipWith_map_right]
  apply List.ext_getElem?;intro i;rw [List.getElem?_zipWith,List.getElem?_zipWith]
  cases e1:(sumK f 32 ls k)[i]? with
  | none=>rfl
  | some a=>
   cases e2:(ls.getD k [])[i]? with
   | none=>rfl
   | some x=>simp only; rw [hF k x (by omega) (hs.byt x (List.mem_of_getElem? e2))]
theorem zDz {ls:List (List Int)} (h:∀ l∈ls,Sec l):refP 32 ls=sumP 32 ls:=by
 have:=zB3 (F:=fun _ x=>x) (f:=fun _=>1) h (fun _ x _ hx=>(zqw hx).symm) (Nat.le_refl ls.length)
 exact this
theorem zDA {ls:List (List Int)} (h:∀ l∈ls,Sec l) (h7:ls.length≤7):refQ 32 ls=sumQ 32 ls:=by
 have:=zB3 (F:=fun k x=>ze1 x (zee k)) (f:=pow8) h (fun k x hk hx=>zxV hx (by omega)) (Nat.le_refl ls.length)
 exact this
end Wf

namespace Wf
open Go Go.RowKit Go.Proofs
set_option linter.unusedSimpArgs false
set_option linter.unusedVariables false
set_option maxHeartbeats 4000000
section
variable (g:Geo) (row k n:Int)
theorem znC:zcG [.agg [.int .i64 g.l,.int .i64 g.d,.int .i64 g.c],.int .i64 row]=some (.bool (zcN g row)):=by
 rw [zxG];unfold zuO
 rw [show D.agg [.int .i64 g.l,.int .i64 g.d,.int .i64 g.c]=gD g.l g.d g.c from rfl,zfW,zac]
 show asI IntKind.i64 (.int .i64 _) _=_;rw [zbg];unfold zcN;cases h:g.ok
 ·have:zdR g.l g.d g.c=false:=h;simp [this]
 ·have:zdR g.l g.d g.c=true:=h
  by_cases h0:0≤row
  ·simp [this,h0]
  ·simp [this,h0]
theorem zl2:zaK [.agg [.int .i64 g.l,.int .i64 g.d,.int .i64 g.c],.int .i64 row]=some (.tup [.int .i64 (parP g row).1,.int .i64 (parP g row).2]):=zwC g row
theorem zr7:zbt [.agg [.int .i64 g.l,.int .i64 g.d,.int .i64 g.c],.int .i64 row,.int .i64 k]=some (.int .i64 (zdU g row k)):=zzU g row k
theorem zl3:zaV [.agg [.int .i64 g.l,.int .i64 g.d,.int .i64 g.c]]=some (.int .i64 g.width):=zwB g
theorem zB4:zbq [.agg [.int .i64 g.l,.int .i64 g.d,.int .i64 g.c],.int .i64 row,.int .i64 k]=some (.int .i64 (zdU g row k)):=zDo g row k
theorem zy2:zaB [.agg [.int .i64 g.l,.int .i64 g.d,.int .i64 g.c],.int .i64 row]=some (.tup [.int .i64 (parP g row).1,.int .i64 (parP g row).2]):=zBL g row
theorem zr8:zas [.agg [.int .i64 g.l,.int .i64 g.d,.int .i64 g.c],.int .i64 row]=some (.bool (zcN g row)):=zu8 g row
theorem zpC:zaf [.agg [.int .i64 g.l,.int .i64 g.d,.int .i64 g.c]]=some (.int .i64 g.width):=ztC g
end
def zhy (g:Geo) (row:Int) (ls:List (List Int)):Nat→List Part
 | 0=>List.replicate g.d.toNat (Tag.nil,[])
 | k+1=>(zhy g row ls k).set (zdU g row (k:Int)).toNat (Tag.fresh,ls.getD k [])
def zzZ (g:Geo) (row:Int) (ls:List (List Int)) (p q:List Int):List Part:=
 if (parP g row).2 < 0 then (zhy g row ls g.width.toNat).set (parP g row).1.toNat (Tag.fresh,p)
 else ((zhy g row ls g.width.toNat).set (parP g row).1.toNat (Tag.fresh,p)).set (parP g row).2.toNat (Tag.fresh,q)
theorem zfs (g:Geo) (row:Int) (ls:List (List Int)) (k:Nat):(zhy g row ls k).length=g.d.toNat:=by
 induction k with
 | zero=>simp [zhy]
 | succ k ih=>simp [zhy,ih]
theorem ztH (g:Geo) (row:Int) (ls:List (List Int)) (k:Nat):∀ x∈zhy g row ls k,Part.free x=true:=by
 induction k with
 | zero=>intro x hx; rw [(List.mem_replicate.1 hx).2]; rfl
 | succ k ih=>
  intro x hx;rcases List.mem_or_eq_of_mem_set hx with hx | hx
  ·exact ih x hx
  ·rw [hx]; rfl
theorem zqB {ps:List Part} (h:∀ x∈ps,Part.free x=true) (i:Nat) (l:List Int):∀ x∈ps.set i (Tag.fresh,l),Part.free x=true:=by
 intro x hx;rcases List.mem_or_eq_of_mem_set hx with hx | hx
 ·exact h x hx
 ·rw [hx]; rfl
theorem zjR (t:Tag) (l:List D):D.isAgg (.sl t l)=false:=rfl
theorem zy3 (n:Nat):pL (List.replicate n (Tag.nil,[]))=List.replicate n (D.sl .nil []):=by simp [pL,uL]
section
variable {g:Geo} {row:Int} (h:zcN g row=true)
include h
theorem zy4 {ls:List (List Int)} {d:Int} (d0:0≤d) (d1:d < g.d) (h1:d≠(parP g row).1) (h2:d≠(parP g row).2):∀ k:Nat,(k:Int)≤g.width→
  (zhy g row ls k)[d.toNat]? =some (if zfI g d row < k then (Tag.fresh,ls.getD (zfI g d row).toNat []) else (Tag.nil,[]))
 | 0,_=>by
  obtain ⟨c0,c1,c2⟩:=zlZ h d0 d1 h1 h2;unfold zhy
  rw [List.getElem?_replicate,if_pos (by omega),if_neg (by omega)]
 | k+1,hk=>by
  obtain ⟨c0,c1,c2⟩:=zlZ h d0 d1 h1 h2
  have hdi:=zm7 h (k:=(k:Int)) (by omega) (by omega)
  have ih:=zy4 (ls:=ls) d0 d1 h1 h2 k (by omega)
  unfold zhy;rw [List.getElem?_set]
  by_cases e:zfI g d row=k
  ·have e2:zdU g row k=d:=by rw [←e]; exact c2
   rw [if_pos (by rw [e2]),if_pos (by rw [zfs,e2]; omega),if_pos (by omega)]
   congr 3;rw [e]; rfl
  ·have e2:zdU g row k≠d:=fun e2=>e (zwm h c0 c1 (by omega) (by omega) (by rw [c2,e2]))
   rw [if_neg (by omega),ih]
   by_cases hlt:zfI g d row < k
   ·rw [if_pos hlt,if_pos (by omega)]
   ·rw [if_neg hlt,if_neg (by omega)]
theorem ztI (ls:List (List Int)) (p q:List Int) (hp:p=sumP 32 ls) (hq:q=sumQ 32 ls∨g.l=5):zzZ g row ls p q=fP (zcW g row ls):=by
 obtain ⟨hk,r0,r1⟩:=zbV.1 h;have hw:=zdn hk;obtain ⟨p0,p1,p2⟩:=zrF h;have hpq:=zEb h
 have hlen:(zzZ g row ls p q).length=g.d.toNat:=by unfold zzZ; split<;>simp [zfs]
 apply List.ext_getElem?;intro i
 by_cases hi:i < g.d.toNat
 ·have hr:(fP (zcW g row ls))[i]? =some (Tag.fresh,atR g row ls i):=zwI (ziF (by omega))
  rw [hr]
  have hbase:∀ d:Int,0≤d→d < g.d→d≠(parP g row).1→d≠(parP g row).2→(zhy g row ls g.width.toNat)[d.toNat]? =some (Tag.fresh,atR g row ls d):=by
   intro d d0 d1 n1 n2;obtain ⟨c0,c1,c2⟩:=zlZ h d0 d1 n1 n2
   rw [zy4 h d0 d1 n1 n2 _ (by omega),if_pos (by omega)]
   unfold atR;rw [if_neg n1,if_neg n2]
  unfold zzZ
  by_cases e1:(i:Int)=(parP g row).1
  ·have ha:atR g row ls i=p:=by rw [e1,at_p h,hp]
   rw [ha];split
   ·rw [List.getElem?_set,if_pos (by omega),if_pos (by rw [zfs]; omega)]
   ·rw [List.getElem?_set,if_neg (by omega),List.getElem?_set,if_pos (by omega),if_pos (by rw [zfs]; omega)]
  ·by_cases e2:(i:Int)=(parP g row).2
   ·have ha:atR g row ls i=sumQ 32 ls:=by rw [e2,at_q h]
    have h6:¬ (parP g row).2 < 0:=by omega
    rw [ha,if_neg h6,List.getElem?_set,if_pos (by omega),if_pos (by rw [List.length_set,zfs]; omega)]
    rcases hq with hq | hq
    ·rw [hq]
    ·rcases p2 with ⟨e,_⟩ | ⟨_,_,e⟩<;>omega
   ·have:=hbase i (by omega) (by omega) e1 e2
    rw [Int.toNat_natCast] at this;split
    ·rw [List.getElem?_set,if_neg (by omega),this]
    ·rw [List.getElem?_set,if_neg (by omega),List.getElem?_set,if_neg (by omega),this]
 ·rw [List.getElem?_eq_none (by omega),List.getElem?_eq_none (by simp [zl0]; omega)]
end
theorem zDB (t:Tag) (l:List Int):zap [.sl t (uL l)]=some (.bool (!decide (l.length=32))):=by
 rw [zoo,zc6];unfold zhm;simp only [zdK];congr 2
 by_cases h:l.length=32
 ·simp [h]
 ·simp [h]; omega
theorem zpD (tg:Tag) (ps:List Part) (hn:ps.length < 100000):
  ∃ r,zaj [.sl tg (pL ps),.fn ID.row_sectors_1 [] []]=some r∧∃ i:Int,r=.int .i64 i∧decide (i≥0)= !(ps.all fun x=>decide (x.2.length=32)):=by
 rw [zdV,zc9]
 have hm:(ps.all fun x=>decide (x.2.length=32))=((ps.map fun x=>(zb3 x.1 x.2,x.2)).all fun x=>decide (x.2.length=32)):=by rw [List.all_map]; rfl
 have hlen:(ps.map fun x=>(zb3 x.1 x.2,x.2)).length=ps.length:=by simp
 rw [hm];rw [←hlen] at hn
 generalize (ps.map fun x=>(zb3 x.1 x.2,x.2))=rs at*
 unfold zcb
 refine zyC (fun a=>(rs.length:Nat) - a.1.2.2.1.toNat) (fun r=>∃ i:Int,r=D.int .i64 i∧decide (i≥0)= !(rs.all fun x=>decide (x.2.length=32)))
  (fun a=>∃ k:Nat,k≤rs.length∧((rs.take k).all fun x=>decide (x.2.length=32))=true∧a=((pL rs,(rs.length:Int),(k:Int),PUnit.unit),PUnit.unit)) ?_ ⟨0,by omega,by simp,by rw [zwG]; rfl⟩ (by simp; omega)
 rintro again _ ⟨k,hk,he,rfl⟩ hag
 dsimp only
 by_cases hkm:k < rs.length
 ·obtain ⟨x,hx⟩:∃ x,rs[k]? =some x:=⟨_,List.getElem?_eq_getElem hkm⟩
  have hd:decide ((k:Int) < (rs.length:Int))=true:=by simp; omega
  rw [hd,za5,zaa (by omega),zag (by simpa using zcP hx),zfa,zDB,zac,zck]
  by_cases hf:x.2.length=32
  ·simp only [hf,decide_true,Bool.not_true,zar,zaR]
   rw [zal (by omega) (by omega)]
   refine hag _ ⟨k+1,by omega,?_,rfl⟩ (by simp; omega)
   rw [List.take_add_one,hx,List.all_append,he];simp [hf]
  ·simp only [hf,decide_false,Bool.not_false,za5];refine ⟨_,rfl,_,rfl,?_⟩
   have:(rs.all fun x=>decide (x.2.length=32))=false:=by
    rw [List.all_eq_false]
    exact ⟨x,List.mem_of_getElem? hx,by simp [hf]⟩
   rw [this];simp
 ·have hd:decide ((k:Int) < (rs.length:Int))=false:=by simp; omega
  rw [hd,zar];refine ⟨_,rfl,_,rfl,?_⟩
  rw [List.take_of_length_le (by omega)] at he
  rw [he];rfl
theorem row_sectors (tg:Tag) (ps:List Part) (hn:ps.length < 100000):zch [.sl tg (pL ps)]=some (.bool (ps.all fun x=>decide (x.2.length=32))):=by
 rw [zqo,zc9]
 have hm:(ps.all fun x=>decide (x.2.length=32))=((ps.map fun x=>(zb3 x.1 x.2,x.2)).all fun x=>decide (x.2.length=32)):=by rw [List.all_map]; rfl
 have hlen:(ps.map fun x=>(zb3 x.1 x.2,x.2)).length=ps.length:=by simp
 rw [hm];rw [←hlen] at hn
 generalize (ps.map fun x=>(zb3 x.1 x.2,x.2))=rs at*
 unfold zjz
 have:zae [.sl .lent (pL rs),.fn ID.row_sectors_1 [] []]=some (.bool (!(rs.all fun x=>decide (x.2.length=32)))):=by
  rw [zdC,zc9]
  have hm:(rs.all fun x=>decide (x.2.length=32))=((rs.map fun x=>(zb3 x.1 x.2,x.2)).all fun x=>decide (x.2.length=32)):=by rw [List.all_map]; rfl
  have hlen:(rs.map fun x=>(zb3 x.1 x.2,x.2)).length=rs.length:=by simp
  rw [hm];rw [←hlen] at hn
  generalize (rs.map fun x=>(zb3 x.1 x.2,x.2))=qs at*
  unfold zbW;obtain ⟨r,h1,i,rfl,h2⟩:=zpD .lent qs hn;rw [h1,zac,zbg,h2]
 rw [this,zac,zck,Bool.not_not]
theorem zy5 (g:Geo) (row:Int) (tg:Tag) {ps:List Part} (hn:ps.length < 100000):
  zbZ [.agg [.int .i64 g.l,.int .i64 g.d,.int .i64 g.c],.int .i64 row,.sl tg (pL ps)]=some (solD (zuK g row (ps.map (·.2)))):=by
 rw [zu6,zc9]
 have hlen:(ps.map fun x=>(zb3 x.1 x.2,x.2)).length=ps.length:=by simp
 have hm:(ps.map fun x=>(zb3 x.1 x.2,x.2)).map (·.2)=ps.map (·.2):=by rw [List.map_map]; rfl
 rw [←hlen] at hn;rw [←hm]
 generalize (ps.map fun x=>(zb3 x.1 x.2,x.2))=rs at*
 clear hm hlen ps;unfold zpn zuK;cases h:zcN g row
 ·simp [znC,h,solD]
 by_cases hl:(rs.length:Int)=g.width
 ·have hall:((rs.map (·.2)).all fun x=>decide (x.length=32))=(rs.all fun x=>decide (x.2.length=32)):=by rw [List.all_map]; rfl
  rw [hall]
  cases hs:(rs.all fun x=>decide (x.2.length=32))
  ·simp [znC,h,solD,zl3,hl,row_sectors _ _ hn,hs]
  ·have hl':∀ x∈rs,x.2.length=32:=fun x hx=>by rw [List.all_eq_true] at hs; simpa using hs x hx
   rw [if_pos ⟨rfl,by simp [hl],rfl⟩]
   obtain ⟨hk,r0,r1⟩:=zbV.1 h;have hw:=zdn hk;have hdd:=ok_d hk
   have hb:((((pL rs).length:Nat):Int) != g.width)=false:=by simp [hl]
   have hrl:rs.length=g.width.toNat:=by omega
   rw [znC,zac,zck,h,Bool.not_true,zar,zl3,zac,zbg,hb,zar,row_sectors _ _ hn,zac,zck,hs,Bool.not_true,zar,zaa (by omega),zaa (by rfl),zaa (by omega),zaa (by omega),zaa (by simp)]
   let st:Nat→(Int×List D×(Int×Int×Int×PUnit)×List D×List D×Int×Int×PUnit)×PUnit:=fun k=>((row,pL rs,(g.l,g.d,g.c,PUnit.unit),pL (zhy g row (rs.map (·.2)) k),pL rs,((pL rs).length:Int),(k:Int),PUnit.unit),PUnit.unit)
   have hst:st 0=((row,pL rs,(g.l,g.d,g.c,PUnit.unit),List.replicate g.d.toNat (D.sl .nil []),pL rs,((pL rs).length:Int),0,PUnit.unit),PUnit.unit):=by
    simp only [st,zhy,zy3]; rfl
   rw [←hst]
   refine zca st rs.length (by omega) ?_ ?_
   ·intro again k hk';dsimp only [st];obtain ⟨x,hx⟩:∃ x,rs[k]? =some x:=⟨_,List.getElem?_eq_getElem hk'⟩;have hxs:=hl' x (List.mem_of_getElem? hx)
    have hxe:rs[k]=x:=by rw [List.getElem?_eq_getElem hk'] at hx; exact Option.some.inj hx
    have hdi:=zm7 h (k:=(k:Int)) (by omega) (by omega)
    have hfl:=zfs g row (rs.map (·.2)) k
    obtain ⟨y,hy⟩:∃ y,(zhy g row (rs.map (·.2)) k)[(zdU g row (k:Int)).toNat]? =some y:=⟨_,List.getElem?_eq_getElem (by omega)⟩
    have hgd:(rs.map (·.2)).getD k []=x.2:=by simp [List.getD_eq_getElem?_getD,hx]
    have hgx:(pL rs)[k]? =some (.sl x.1 (uL x.2)):=zcP hx
    have hlt:(zdU g row (k:Int)).toNat < g.d.toNat:=by omega
    simp (disch:=first | omega | assumption | (simp; done) | fail) [-List.all_eq_true,hk',zag hgx,zr7,zr3 (show x.2.length≤4294967296 by omega),hdi.1,hfl,hlt,zag (zcP hy),zjR,zal,zp4,zhy]
    rw [hxe]
   ·intro again;dsimp only [st];obtain ⟨p0,p1,p2⟩:=zrF h
    have hfl:=zfs g row (rs.map (·.2)) rs.length
    obtain ⟨y,hy⟩:∃ y,(zhy g row (rs.map (·.2)) rs.length)[(parP g row).1.toNat]? =some y:=⟨_,List.getElem?_eq_getElem (by omega)⟩
    have hrp:=zBW (n:=32) .lent (ps:=rs) (by omega) (by omega) (by omega) hl'
    have hrq:=zBX (n:=32) .lent (ps:=rs) (by omega) (by omega) (by omega) hl'
    have hff:=ztI h (rs.map (·.2)) (sumP 32 (rs.map (·.2))) (sumQ 32 (rs.map (·.2))) rfl (.inl rfl)
    have hfree:=zqB (ztH g row (rs.map (·.2)) rs.length) (parP g row).1.toNat (sumP 32 (rs.map (·.2)))
    have hfree2:=zqB hfree (parP g row).2.toNat (sumQ 32 (rs.map (·.2)))
    have hlt:(parP g row).1.toNat < g.d.toNat:=by omega
    unfold zzZ at hff;rw [←hrl] at hff;rcases p2 with ⟨p2,_⟩ | ⟨q0,q1,_⟩
    ·rw [if_pos (by omega)] at hff
     have hq:¬ (0≤(parP g row).2):=by omega
     simp (disch:=first | omega | assumption | (simp; done) | fail) [-List.all_eq_true,zl2,hrp,p0,hfl,hlt,zag (zcP hy),zjR,hq,zp4,zlE hfree,solD,hff,zgq]
    ·rw [if_neg (by omega)] at hff
     have hlt2:(parP g row).2.toNat < g.d.toNat:=by omega
     obtain ⟨z,hz⟩:∃ z,((zhy g row (rs.map (·.2)) rs.length).set (parP g row).1.toNat (Tag.fresh,sumP 32 (rs.map (·.2))))[(parP g row).2.toNat]? =some z:=⟨_,List.getElem?_eq_getElem (by simp [hfl]; omega)⟩
     simp (disch:=first | omega | assumption | (simp; done) | fail) [-List.all_eq_true,zl2,hrp,hrq,p0,q0,hfl,hlt,hlt2,zag (zcP hy),zag (zcP hz),zjR,zp4,zlE hfree,zlE hfree2,solD,hff,zgq]
 ·have h2:¬ (true=true∧(((rs.map (·.2)).length:Nat):Int)=g.width∧((rs.map (·.2)).all fun x=>decide (x.length=32))=true):=by rintro ⟨_,e,_⟩; simp at e; exact hl e
  rw [if_neg h2];simp [znC,h,solD,zl3,hl]
end Wf

namespace Wf
open Go Go.RowKit Go.Proofs
set_option linter.unusedSimpArgs false
set_option linter.unusedVariables false
set_option maxHeartbeats 4000000
def zfZ (g:Geo) (row:Int) (rs:List Part) (k:Nat):List Part:=(List.range k).map fun (j:Nat)=>rs.getD (zdU g row (j:Int)).toNat (.nil,[])
theorem zwN (g:Geo) (row:Int) (rs:List Part):(zfZ g row rs g.width.toNat).map (·.2)=zgl g row (rs.map (·.2)):=by
 unfold zfZ zgl;rw [List.map_map];apply List.map_congr_left;intro j _;simp [List.getD_eq_getElem?_getD];cases rs[(zdU g row (j:Int)).toNat]? <;>rfl
theorem zve (g:Geo) (row:Int) (rs:List Part) {k:Nat} {x:Part} (h:rs[(zdU g row (k:Int)).toNat]? =some x):zfZ g row rs (k+1)=zfZ g row rs k++[x]:=by
 unfold zfZ;rw [List.range_succ,List.map_append];simp [List.getD_eq_getElem?_getD,h]
theorem zr9 {R:Type} (a b:D) (f:LfT [.any,.any]→Option R):zat [.any,.any] [a,b] f=f (a,b,()):=by rw [zdf,zdf,zd4]
theorem zDC (g:Geo) (row:Int) (tg:Tag) {ps:List Part} (hn:ps.length < 100000):
  zdc [.agg [.int .i64 g.l,.int .i64 g.d,.int .i64 g.c],.int .i64 row,.sl tg (pL ps)]=some (solD (zsn g row (ps.map (·.2)))):=by
 rw [zu2,zc9]
 have hm:(ps.map fun x=>(zb3 x.1 x.2,x.2)).map (·.2)=ps.map (·.2):=by rw [List.map_map]; rfl
 have hlen:(ps.map fun x=>(zb3 x.1 x.2,x.2)).length=ps.length:=by simp
 rw [←hm];rw [←hlen] at hn
 generalize (ps.map fun x=>(zb3 x.1 x.2,x.2))=rs at*
 clear hm hlen ps;unfold zpk zsn;cases h:zcN g row
 ·simp [znC,h,solD]
 by_cases hl:(rs.length:Int)=g.d
 ·rw [if_pos ⟨rfl,by simp [hl]⟩]
  have hk:=(zbV.1 h).1;have hw:=zdn hk;have hdd:=ok_d hk
  have hb:((((pL rs).length:Nat):Int) != g.d)=false:=by simp [hl]
  rw [znC,zac,zck,h,Bool.not_true,zar,hb,zar,zl3,zac,zbg]
  let st:Nat→(Int×List D×(Int×Int×Int×PUnit)×List D×Int×Int×PUnit)×PUnit:=fun k=>((row,pL rs,(g.l,g.d,g.c,PUnit.unit),pL (zfZ g row rs k),g.width,(k:Int),PUnit.unit),PUnit.unit)
  have hst:st 0=((row,pL rs,(g.l,g.d,g.c,PUnit.unit),[],g.width,0,PUnit.unit),PUnit.unit):=rfl;rw [←hst]
  refine zca st g.width.toNat (by omega) ?_ ?_
  ·intro again k hk';dsimp only [st]
   have hd:(k:Int) < g.width:=by omega
   have hdi:=zm7 h (k:=(k:Int)) (by omega) (by omega)
   obtain ⟨x,hx⟩:∃ x,rs[(zdU g row (k:Int)).toNat]? =some x:=⟨_,List.getElem?_eq_getElem (by omega)⟩
   have hpl:(zfZ g row rs k).length=k:=by simp [zfZ]
   simp (disch:=first | omega | assumption | (simp; done) | fail) [-List.all_eq_true,hd,zr7,hdi.1,zag (zcP hx),hpl,zal,zBV,zve g row rs hx]
  ·intro again;dsimp only [st]
   have hd:¬ ((g.width.toNat:Nat):Int) < g.width:=by omega
   obtain ⟨p0,p1,p2⟩:=zrF h
   obtain ⟨xp,hxp⟩:∃ x,rs[(parP g row).1.toNat]? =some x:=⟨_,List.getElem?_eq_getElem (by omega)⟩
   have hpo:pOf g row (rs.map (·.2))=xp.2:=by unfold pOf; simp [List.getD_eq_getElem?_getD,hxp]
   have hrl:(zfZ g row rs g.width.toNat).length < 100000:=by simp [zfZ]; omega
   have hsol:=fun tq q=>zDx xp.1 tq .lent xp.2 q hrl
   rw [zwN] at hsol;rw [hpo];rcases p2 with ⟨p2,_⟩ | ⟨q0,q1,_⟩
   ·have hqo:qOf g row (rs.map (·.2))=[]:=by unfold qOf; rw [if_pos (by omega)]
    have hq:(parP g row).2 < 0:=by omega
    have hs:=hsol .nil []
    rw [show uL []=([]:List D) from rfl] at hs
    rw [hqo]
    simp (disch:=first | omega | assumption | (simp; done) | fail) [-List.all_eq_true,znB,hd,zl2,hq,p0,zag (zcP hxp),hs]
    cases zkT xp.2 [] (zgl g row (rs.map (·.2)))<;>simp [-List.all_eq_true,solD,zgq]
   ·obtain ⟨xq,hxq⟩:∃ x,rs[(parP g row).2.toNat]? =some x:=⟨_,List.getElem?_eq_getElem (by omega)⟩
    have hqo:qOf g row (rs.map (·.2))=xq.2:=by unfold qOf; rw [if_neg (by omega)]; simp [List.getD_eq_getElem?_getD,hxq]
    have hq:¬ (parP g row).2 < 0:=by omega
    rw [hqo]
    simp (disch:=first | omega | assumption | (simp; done) | fail) [-List.all_eq_true,znB,hd,zl2,hq,p0,q0,zag (zcP hxp),zag (zcP hxq),hsol]
    cases zkT xp.2 xq.2 (zgl g row (rs.map (·.2)))<;>simp [-List.all_eq_true,solD,zgq]
 ·have h2:¬ (true=true∧(((rs.map (·.2)).length:Nat):Int)=g.d):=by rintro ⟨_,e⟩; simp at e; exact hl e
  rw [if_neg h2];simp [znC,h,solD,hl]
theorem zDD (g:Geo) (row:Int) (tg:Tag) {ps:List Part} (hn:ps.length < 100000) (hs:∀ x∈ps,Sec x.2):
  zbw [.agg [.int .i64 g.l,.int .i64 g.d,.int .i64 g.c],.int .i64 row,.sl tg (pL ps)]=some (solD (zuK g row (ps.map (·.2)))):=by
 rw [zlu,zc9]
 have hlen:(ps.map fun x=>(zb3 x.1 x.2,x.2)).length=ps.length:=by simp
 have hm:(ps.map fun x=>(zb3 x.1 x.2,x.2)).map (·.2)=ps.map (·.2):=by rw [List.map_map]; rfl
 have hs':∀ x∈(ps.map fun x=>(zb3 x.1 x.2,x.2)),Sec x.2:=by intro x hx; obtain ⟨y,hy,rfl⟩:=List.mem_map.1 hx; exact hs y hy
 rw [←hlen] at hn;rw [←hm]
 generalize (ps.map fun x=>(zb3 x.1 x.2,x.2))=rs at*
 clear hm hlen hs ps;unfold zfl zuK
 have hsl:∀ x∈rs.map (·.2),Sec x:=by intro x hx; obtain ⟨y,hy,rfl⟩:=List.mem_map.1 hx; exact hs' y hy
 have hl':∀ x∈rs,x.2.length=32:=fun x hx=>(hs' x hx).len
 have hall:((rs.map (·.2)).all fun x=>decide (x.length=32))=true:=by rw [List.all_eq_true]; intro x hx; simpa using (hsl x hx).len
 cases h:zcN g row
 ·simp [zr8,h,solD]
 by_cases hl:(rs.length:Int)=g.width
 ·rw [if_pos ⟨rfl,by simp [hl],hall⟩]
  obtain ⟨hk,r0,r1⟩:=zbV.1 h;have hw:=zdn hk;have hdd:=ok_d hk
  have hb:((((pL rs).length:Nat):Int) != g.width)=false:=by simp [hl]
  have hrl:rs.length=g.width.toNat:=by omega
  rw [zr8,zac,zck,h,Bool.not_true,zar,zpC,zac,zbg,hb,zar,zaa (by omega),zaa (by rfl),zaa (by omega),zaa (by omega),zaa (by simp)]
  let st:Nat→(Int×List D×(Int×Int×Int×PUnit)×List D×List D×Int×Int×PUnit)×PUnit:=fun k=>((row,pL rs,(g.l,g.d,g.c,PUnit.unit),pL (zhy g row (rs.map (·.2)) k),pL rs,((pL rs).length:Int),(k:Int),PUnit.unit),PUnit.unit)
  have hst:st 0=((row,pL rs,(g.l,g.d,g.c,PUnit.unit),List.replicate g.d.toNat (D.sl .nil []),pL rs,((pL rs).length:Int),0,PUnit.unit),PUnit.unit):=by
   simp only [st,zhy,zy3]; rfl
  rw [←hst]
  refine zca st rs.length (by omega) ?_ ?_
  ·intro again k hk';dsimp only [st];obtain ⟨x,hx⟩:∃ x,rs[k]? =some x:=⟨_,List.getElem?_eq_getElem hk'⟩;have hxs:=hl' x (List.mem_of_getElem? hx)
   have hxe:rs[k]=x:=by rw [List.getElem?_eq_getElem hk'] at hx; exact Option.some.inj hx
   have hdi:=zm7 h (k:=(k:Int)) (by omega) (by omega)
   have hfl:=zfs g row (rs.map (·.2)) k
   obtain ⟨y,hy⟩:∃ y,(zhy g row (rs.map (·.2)) k)[(zdU g row (k:Int)).toNat]? =some y:=⟨_,List.getElem?_eq_getElem (by omega)⟩
   have hgd:(rs.map (·.2)).getD k []=x.2:=by simp [List.getD_eq_getElem?_getD,hx]
   have hgx:(pL rs)[k]? =some (.sl x.1 (uL x.2)):=zcP hx
   have hlt:(zdU g row (k:Int)).toNat < g.d.toNat:=by omega
   simp (disch:=first | omega | assumption | (simp; done) | fail) [-List.all_eq_true,hk',zag hgx,zB4,hxs,hdi.1,hfl,hlt,zag (zcP hy),zjR,zal,zp4,zhy]
   rw [hxe]
  ·intro again;dsimp only [st];obtain ⟨p0,p1,p2⟩:=zrF h
   have hfl:=zfs g row (rs.map (·.2)) rs.length
   obtain ⟨y,hy⟩:∃ y,(zhy g row (rs.map (·.2)) rs.length)[(parP g row).1.toNat]? =some y:=⟨_,List.getElem?_eq_getElem (by omega)⟩
   have hrp:=zHA (n:=32) .lent (ps:=rs) (by omega) (by omega) (by omega) hl'
   have hrq:=zHB (n:=32) .lent (ps:=rs) (by omega) (by omega) (by omega) hl'
   rw [zDz hsl] at hrp
   rw [zDA hsl (by simp; omega)] at hrq
   have hff:=ztI h (rs.map (·.2)) (sumP 32 (rs.map (·.2))) (sumQ 32 (rs.map (·.2))) rfl (.inl rfl)
   have hfree:=zqB (ztH g row (rs.map (·.2)) rs.length) (parP g row).1.toNat (sumP 32 (rs.map (·.2)))
   have hfree2:=zqB hfree (parP g row).2.toNat (sumQ 32 (rs.map (·.2)))
   have hlt:(parP g row).1.toNat < g.d.toNat:=by omega
   unfold zzZ at hff;rw [←hrl] at hff;rcases p2 with ⟨p2,_⟩ | ⟨q0,q1,_⟩
   ·rw [if_pos (by omega)] at hff
    have hq:¬ (0≤(parP g row).2):=by omega
    simp (disch:=first | omega | assumption | (simp; done) | fail) [-List.all_eq_true,zy2,hrp,p0,hfl,hlt,zag (zcP hy),zjR,hq,zp4,zlE hfree,solD,hff,zgq]
   ·rw [if_neg (by omega)] at hff
    have hlt2:(parP g row).2.toNat < g.d.toNat:=by omega
    obtain ⟨z,hz⟩:∃ z,((zhy g row (rs.map (·.2)) rs.length).set (parP g row).1.toNat (Tag.fresh,sumP 32 (rs.map (·.2))))[(parP g row).2.toNat]? =some z:=⟨_,List.getElem?_eq_getElem (by simp [hfl]; omega)⟩
    simp (disch:=first | omega | assumption | (simp; done) | fail) [-List.all_eq_true,zy2,hrp,hrq,p0,q0,hfl,hlt,hlt2,zag (zcP hy),zag (zcP hz),zjR,zp4,zlE hfree,zlE hfree2,solD,hff,zgq]
 ·have h2:¬ (true=true∧(((rs.map (·.2)).length:Nat):Int)=g.width∧((rs.map (·.2)).all fun x=>decide (x.length=32))=true):=by rintro ⟨_,e,_⟩; simp at e; exact hl e
  rw [if_neg h2];simp [zr8,h,solD,zpC,hl]
end Wf

namespace Wf
open Go Go.RowKit Go.Proofs
set_option linter.unusedSimpArgs false
set_option linter.unusedVariables false
set_option maxHeartbeats 4000000
theorem ze2 (live:List Bool):D.lentL (live.map D.bool)=live.map D.bool:=by
 induction live with
 | nil=>rfl
 | cons x l ih=>simp [ih]
theorem zoJ (acts:Nat→List Act):∀ (n k:Nat) (B:Ben),runE (fun k B=>runA (acts k) B) k n B=runA ((List.range' k n).flatMap acts) B
 | 0,k,B=>rfl
 | n+1,k,B=>by
  rw [List.range'_succ,List.flatMap_cons,zm4]
  show (if (runA (acts k) B).1=0 then _ else _)=_
  rw [zoJ acts n (k+1)]
theorem zl4 (a:Act) (B:Ben):runA [a] B=B.act a:=by
 rw [zoc]
 by_cases h:(B.act a).1=0
 ·rw [if_pos h];show (0,(B.act a).2)=B.act a;rw [←h]
 ·rw [if_neg h]
section
variable {B:Ben} {d a e:Int} {x:List Int}
theorem zsa {s:DS} (hd:B.is d=true) (hf:s.failed=(B.dk d).failed):(B.setD d s).failed e=B.failed e:=by
 unfold Ben.failed;rw [zxA];cases he:B.is e
 ·rfl
 ·rw [zeq hd (zc4.1 he).1];split
  ·rename_i q; subst q; rw [hf]
  ·rfl
theorem zpE (B:Ben) (d a:Int) (x:List Int):(B.write d a x).2.n=B.n∧∀ e,(B.write d a x).2.failed e=B.failed e:=by
 unfold Ben.write;split
 ·exact ⟨rfl,fun _=>rfl⟩
 ·rename_i h0;have hd:=(may0.1 (Classical.not_not.1 h0)).1;split
  ·exact ⟨rfl,fun _=>rfl⟩
  ·split
   ·exact ⟨rfl,fun _=>rfl⟩
   ·exact ⟨by simp,fun e=>zsa (B:=(B.junk _).less) hd rfl⟩
theorem ztJ (hB:B.Ok) (d:Int):(B.flush d).2.n=B.n∧∀ e,(B.flush d).2.failed e=B.failed e:=by
 unfold Ben.flush;split
 ·exact ⟨rfl,fun _=>rfl⟩
 ·rename_i h0;have hd:=(may0.1 (Classical.not_not.1 h0)).1
  refine ⟨by simp,fun e=>zsa hd ?_⟩
  unfold DS.flush;split
  ·rfl
  ·exact zmE (zh2 hB d).1
def Like (B B':Ben):Prop:=B'.n=B.n∧∀ e,B'.failed e=B.failed e
theorem Like.refl (B:Ben):Like B B:=⟨rfl,fun _=>rfl⟩
theorem Like.trans {A B C:Ben} (h1:Like A B) (h2:Like B C):Like A C:=⟨h2.1.trans h1.1,fun e=>(h2.2 e).trans (h1.2 e)⟩
theorem Like.up {B B':Ben} (h:Like B B') (live:List Bool) (e:Int):B'.up live e=B.up live e:=by unfold Ben.up; rw [h.1,h.2]
end
section
variable {T0 T1:Tb} {b:Nat} {idx:List Nat} {B:Ben}
theorem zwO (h:At T0 T1 b idx B) (hw:B.w≤999000) (tg:Tag) (live:List Bool) (g:Geo) (r:Int) (tg2:Tag) {ps:List Part} (hn:ps.length < 100000) (hs:∀ x∈ps,Sec x.2):
  zie [.h kB b 0,.sl tg (live.map D.bool),.agg [.int .i64 g.l,.int .i64 g.d,.int .i64 g.c],.int .i64 r,.sl tg2 (pL ps)] [P0 T0 b idx B,P1 T1 idx B]=
   some (Ans.mk (.int .i64 (B.sWrite live g r (ps.map (·.2))).1) [] [P0 T0 b idx (B.sWrite live g r (ps.map (·.2))).2,P1 T1 idx (B.sWrite live g r (ps.map (·.2))).2]):=by
 rw [zpv,ze2,zc9]
 have hlen:(ps.map fun x=>(zb3 x.1 x.2,x.2)).length=ps.length:=by simp
 have hm:(ps.map fun x=>(zb3 x.1 x.2,x.2)).map (·.2)=ps.map (·.2):=by rw [List.map_map]; rfl
 have hs':∀ x∈(ps.map fun x=>(zb3 x.1 x.2,x.2)),Sec x.2:=by intro x hx; obtain ⟨y,hy,rfl⟩:=List.mem_map.1 hx; exact hs y hy
 rw [←hlen] at hn;rw [←hm]
 generalize (ps.map fun x=>(zb3 x.1 x.2,x.2))=rs at*
 clear hm hlen hs ps;unfold zif Ben.sWrite;have hfill:=zy5 g r .lent hn
 cases hf:zuK g r (rs.map (·.2)) with
 | none=>
  rw [hf] at hfill
  simp [hfill,solD]
 | some o=>
  have hf0:=hf;unfold zuK at hf0;split at hf0
  rotate_left
  ·cases hf0
  rename_i hc;obtain ⟨hr,hlw,hall⟩:=hc;cases hf0
  have hR:Row g (rs.map (·.2)):=⟨hlw,by intro x hx; obtain ⟨y,hy,rfl⟩:=List.mem_map.1 hx; exact hs' y hy⟩
  generalize rs.map (·.2)=data at*
  rw [hf] at hfill;obtain ⟨hk,r0,r1⟩:=zbV.1 hr;have hdd:=ok_d hk
  rw [if_neg (by simp)]
  have hrl:=zl0 g r data
  let acts:Nat→List Act:=fun d=>if B.up live d then [.w d (36+r) (atR g r data d)] else []
  have hacts:B.wActs live g r data=(List.range' 0 g.d.toNat).flatMap acts:=by unfold Ben.wActs; rw [List.range_eq_range']
  rw [hacts,←zoJ]
  let st:Nat→Ben→(Nat×List D×Int×List D×Int×Int×PUnit)×List (List D)×List (List D)×PUnit:=fun k B'=>((b,live.map D.bool,r,pL (fP (zcW g r data)),(g.d.toNat:Int),(k:Int),PUnit.unit),P0 T0 b idx B',P1 T1 idx B',PUnit.unit)
  have hst:st 0 B=((b,live.map D.bool,r,pL (fP (zcW g r data)),(g.d.toNat:Int),0,PUnit.unit),P0 T0 b idx B,P1 T1 idx B,PUnit.unit):=rfl
  simp (disch:=first | omega | assumption | (simp; done) | fail) only [hfill,solD,zac,zdp,zr9,zbn,zck,Bool.not_true,zar,zaa,Nat.zero_add,Nat.le_refl,zwG,zB1,hrl]
  rw [←hst]
  refine zrB (fun k B'=>runA (acts k) B') (fun k B'=>Nx k B B'∧Like B B') st (fun y=>some (Ans.mk (.int .i64 y.1) [] [P0 T0 b idx y.2,P1 T1 idx y.2])) g.d.toNat (by omega) ⟨.rfl' h.ok (by omega),.refl B⟩ ?_ ?_ ?_
  ·rintro k B' hk' ⟨hx,hL⟩ he
   dsimp only [acts] at he ⊢
   have hsec:=zwn hr hR (d:=(k:Int)) (by omega) (by omega)
   cases hu:B.up live (k:Int)
   ·exact ⟨hx.mono (by omega),hL⟩
   ·rw [if_pos rfl,zl4]
    exact ⟨(hx.trans (zuH hx.ok (.inl hsec))).mono (by omega),hL.trans (zpE ..)⟩
  ·rintro again k B' hk' ⟨hx,hL⟩
   dsimp only [st];have hA:=h.nx hx;have hxw:=hx.w
   have hw':B'.w≤1000000:=by omega
   have hg:(pL (fP (zcW g r data)))[k]? =some (.sl .fresh (uL (atR g r data k))):=zcP (zwI (ziF (by omega)))
   have hup:=zFo hA .lent live (d:=(k:Int)) (by omega)
   rw [hL.up] at hup
   by_cases hu:B.up live (k:Int)=true
   rotate_left
   ·have hu':B.up live (k:Int)=false:=by simpa using hu
    rw [hu'] at hup
    rw [show acts k=[] from if_neg hu]
    simp (disch:=first | omega | assumption | (simp; done) | fail) [hk',hrl,zag hg,hup,zal,runA]
   ·rw [hu] at hup
    rw [show acts k=[.w k (36+r) (atR g r data k)] from if_pos hu,zl4]
    have hwr:=zBS hA hw' (k:Int) (36+r) .fresh (atR g r data k)
    by_cases he:(B'.write k (36+r) (atR g r data k)).1=0
    ·simp (disch:=first | omega | assumption | (simp; done) | fail) [hk',hrl,zag hg,hup,zal,hwr,he,Ben.act]
    ·simp (disch:=first | omega | assumption | (simp; done) | fail) [hk',hrl,zag hg,hup,zal,hwr,he,Ben.act]
  ·rintro again B' ⟨hx,hL⟩
   dsimp only [st];simp
theorem zwP (h:At T0 T1 b idx B) (hw:B.w≤999000) (tg:Tag) (live:List Bool):
  zih [.h kB b 0,.sl tg (live.map D.bool)] [P0 T0 b idx B,P1 T1 idx B]=some (Ans.mk (.int .i64 (B.sFlush live).1) [] [P1 T1 idx (B.sFlush live).2]):=by
 rw [zpw,ze2];unfold zii Ben.sFlush
 let acts:Nat→List Act:=fun d=>if B.up live d then [.f d] else []
 have hacts:B.fActs live=(List.range' 0 B.ds.length).flatMap acts:=by unfold Ben.fActs; rw [List.range_eq_range']
 have hsm:=h.ok.small;rw [hacts,←zoJ]
 let st:Nat→Ben→(Nat×List D×Int×Int×PUnit)×List (List D)×List (List D)×PUnit:=fun k B'=>((b,live.map D.bool,(B.ds.length:Int),(k:Int),PUnit.unit),P0 T0 b idx B,P1 T1 idx B',PUnit.unit)
 have hst:st 0 B=((b,live.map D.bool,(B.ds.length:Int),0,PUnit.unit),P0 T0 b idx B,P1 T1 idx B,PUnit.unit):=rfl;have hl:=zzW h;unfold Ben.n at hl
 simp (disch:=first | omega | assumption | (simp; done) | fail) only [hl,zac,zaW,zbg]
 rw [←hst]
 refine zrB (fun k B'=>runA (acts k) B') (fun k B'=>Nx 0 B B'∧Like B B'∧P0 T0 b idx B'=P0 T0 b idx B) st (fun y=>some (Ans.mk (.int .i64 y.1) [] [P1 T1 idx y.2])) B.ds.length (by omega) ⟨.rfl' h.ok (by omega),.refl B,rfl⟩ ?_ ?_ ?_
 ·rintro k B' hk' ⟨hx,hL,h0⟩ he
  dsimp only [acts] at he ⊢;cases hu:B.up live (k:Int)
  ·exact ⟨hx,hL,h0⟩
  ·rw [if_pos rfl,zl4]
   refine ⟨(hx.trans (zyK hx.ok)).mono (by omega),hL.trans (ztJ hx.ok _),?_⟩
   show P0 T0 b idx (B'.flush k).2=_;rw [←h0];unfold Ben.flush;split<;>rfl
 ·rintro again k B' hk' ⟨hx,hL,h0⟩
  dsimp only [st];have hA:=h.nx hx;have hxw:=hx.w
  have hw':B'.w≤1000000:=by omega
  have hup:=zFo hA .lent live (d:=(k:Int)) (by omega)
  rw [hL.up,h0] at hup
  by_cases hu:B.up live (k:Int)=true
  rotate_left
  ·have hu':B.up live (k:Int)=false:=by simpa using hu
   rw [hu'] at hup
   rw [show acts k=[] from if_neg hu]
   simp (disch:=first | omega | assumption | (simp; done) | fail) [hk',hup,zal,runA]
  ·rw [hu] at hup
   rw [show acts k=[.f k] from if_pos hu,zl4]
   have hfl:=zBT hA hw' (k:Int);rw [h0] at hfl
   by_cases he:(B'.flush k).1=0
   ·simp (disch:=first | omega | assumption | (simp; done) | fail) [hk',hup,zal,hfl,he,Ben.act]
   ·simp (disch:=first | omega | assumption | (simp; done) | fail) [hk',hup,zal,hfl,he,Ben.act]
 ·rintro again B' ⟨hx,hL,h0⟩
  dsimp only [st];simp
end
end Wf

namespace Wf
open Go Go.RowKit Go.Proofs
set_option linter.unusedSimpArgs false
set_option linter.unusedVariables false
set_option maxHeartbeats 4000000
theorem zB5 {p q:List Int} {ls o:List (List Int)} (h:zkT p q ls=some o):o.length=ls.length:=by
 unfold zkT at h;split at h
 ·cases h
 split at h
 ·cases h
 split at h
 ·cases h; simp [zcV]
 ·split at h
  ·cases h; simp [zcV]
  ·cases h; simp [zcV]
 ·cases h; simp [zcV]
theorem zDE {g:Geo} {r:Int} {ls o:List (List Int)} (h:zsn g r ls=some o):o.length=g.width.toNat:=by
 unfold zsn at h;split at h
 ·rw [zB5 h]; simp [zgl]
 ·cases h
section
variable {T0 T1:Tb} {b:Nat} {idx:List Nat} {B:Ben}
theorem zFv {live:List Bool} {d a:Int} (hdn:B.down=false) (d0:0≤d) (hu:B.up live d=true) (a0:0≤a) (a1:a < 52):B.read d a=(B.cur d a,0):=by
 obtain ⟨h1,h2,_⟩:=zDd d0 hu;rw [zd5 h1] at h2;unfold Ben.read
 rw [if_neg (by rw [may0.2 ⟨h1,hdn⟩]; simp)]
 unfold DS.read
 rw [if_neg (by rw [zm3.2 ⟨h2,a0,a1⟩]; simp)]
 rfl
theorem zB6 {live:List Bool} {d:Int} (a:Int) (hdn:B.down=true) (d0:0≤d) (hu:B.up live d=true):B.read d a=([],6):=by
 obtain ⟨h1,h2,_⟩:=zDd d0 hu
 have hm:B.may d=6:=by unfold Ben.may; rw [h1,hdn]; rfl
 unfold Ben.read;rw [hm]; simp
def Ben.secP (B:Ben) (live:List Bool) (r:Int) (n k:Nat):List Part:=(List.range n).map fun (d:Nat)=>if d < k then (if B.up live d then (Tag.fresh,B.cur d (36+r)) else (Tag.nil,[])) else (Tag.nil,[])
theorem zDF (live:List Bool) (r:Int) (n:Nat):(B.secP live r n n).map (·.2)=B.secs live r n:=by
 unfold Ben.secP Ben.secs;rw [List.map_map];apply List.map_congr_left;intro d hd;have:=List.mem_range.1 hd;simp only [Function.comp_apply,if_pos this];split<;>rfl
@[simp] theorem zvf (live:List Bool) (r:Int) (n k:Nat):(B.secP live r n k).length=n:=by simp [Ben.secP]
theorem zB7 (live:List Bool) (r:Int) {n k:Nat} (hk:k < n) (hu:B.up live k=true):(B.secP live r n k).set k (Tag.fresh,B.cur k (36+r))=B.secP live r n (k+1):=by
 apply List.ext_getElem?;intro j;rw [List.getElem?_set];unfold Ben.secP
 by_cases hj:j < n
 ·by_cases hjk:k=j
  ·subst hjk; simp [hj,hu]
  ·rw [if_neg hjk];simp only [List.getElem?_map,List.getElem?_range hj,Option.map_some]
   by_cases h1:j < k
   ·simp only [if_pos h1,if_pos (show j < k+1 by omega)]
   ·simp only [if_neg h1,if_neg (show ¬ j < k+1 by omega)]
 ·have h1:k≠j:=by omega
  rw [if_neg h1,List.getElem?_eq_none (by simp; omega),List.getElem?_eq_none (by simp; omega)]
theorem zB8 (live:List Bool) (r:Int) {n k:Nat} (hk:k < n) (hu:B.up live k=false):B.secP live r n k=B.secP live r n (k+1):=by
 unfold Ben.secP;apply List.map_congr_left;intro j hj
 by_cases h1:j < k
 ·simp only [if_pos h1,if_pos (show j < k+1 by omega)]
 ·by_cases hjk:j=k
  ·subst hjk; simp [hu]
  ·simp only [if_neg h1,if_neg (show ¬ j < k+1 by omega)]
theorem zB9 (live:List Bool) (r:Int) (n:Nat):pL (B.secP live r n 0)=List.replicate n (D.sl .nil []):=by
 unfold Ben.secP pL;rw [List.map_map];apply List.ext_getElem?;intro j
 by_cases hj:j < n
 ·simp [hj,uL]
 ·rw [List.getElem?_eq_none (by simp; omega),List.getElem?_eq_none (by simp; omega)]
theorem zFw (live:List Bool) (r:Int) {n k:Nat} (hk:k < n):(B.secP live r n k)[k]? =some (Tag.nil,[]):=by unfold Ben.secP; simp [hk]
theorem zsb (h:At T0 T1 b idx B) (hw:B.w≤1000000) (tg:Tag) (live:List Bool) (g:Geo) (r:Int):
  zb6 [.h kB b 0,.sl tg (live.map D.bool),.agg [.int .i64 g.l,.int .i64 g.d,.int .i64 g.c],.int .i64 r] [P0 T0 b idx B,P1 T1 idx B]=
   some (Ans.mk (.tup [.sl .own (pL (fP (B.sRead live g r).1)),.int .i64 (B.sRead live g r).2]) [] []):=by
 rw [zqm,ze2];unfold zjy Ben.sRead
 have hck:zak [.agg [.int .i64 g.l,.int .i64 g.d,.int .i64 g.c]]=some (.int .i64 (if g.ok then 0 else 1)):=zfW g.l g.d g.c
 cases hk:g.ok
 ·have hf:zcN g r=false:=by unfold zcN; rw [hk]; rfl
  rw [hk] at hck;simp [hck,hf]; rfl
 rw [hk] at hck
 by_cases r0:r < 0
 ·have hf:zcN g r=false:=by unfold zcN; rw [hk]; simp; omega
  simp [hck,hf,r0]; rfl
 by_cases r1:r≥16
 ·have hf:zcN g r=false:=by unfold zcN; rw [hk]; simp; omega
  simp [hck,hf,r0,show 16≤r by omega]; rfl
 have hr:zcN g r=true:=zbV.2 ⟨hk,by omega,by omega⟩
 have hdd:=ok_d hk
 rw [if_neg (by simp [hr])]
 have r1':¬ 16≤r:=by omega
 simp (disch:=first | omega | assumption | (simp; done) | fail) only [hck,if_true,zac,zbg,zjV,zsm,zaa,List.length_replicate,Nat.zero_add,Nat.le_refl]
 let st:Nat→(Nat×List D×Int×(Int×Int×Int×PUnit)×List D×Int×Int×PUnit)×List (List D)×List (List D)×PUnit:=fun k=>
  ((b,live.map D.bool,r,(g.l,g.d,g.c,PUnit.unit),pL (B.secP live r g.d.toNat k),((g.d.toNat:Nat):Int),(k:Int),PUnit.unit),P0 T0 b idx B,P1 T1 idx B,PUnit.unit)
 have hst:st 0=((b,live.map D.bool,r,(g.l,g.d,g.c,PUnit.unit),List.replicate g.d.toNat (D.sl .nil []),((g.d.toNat:Nat):Int),0,PUnit.unit),P0 T0 b idx B,P1 T1 idx B,PUnit.unit):=by
  simp only [st,zB9]; rfl
 rw [←hst]
 refine zlS (fun x=>g.d.toNat - x.1.2.2.2.2.2.2.1.toNat) (fun _=>_) (fun x=>∃ k:Nat,k≤g.d.toNat∧(B.down=true→∀ j:Nat,j < k→B.up live j=false)∧x=st k) ?_ ⟨0,by omega,fun _ j hj=>by omega,rfl⟩ (by simp [st]; omega)
 rintro again _ ⟨k,hk',hdn,rfl⟩ hag
 dsimp only [st]
 by_cases hlt:k < g.d.toNat
 ·have hup:=zFo h .lent live (d:=(k:Int)) (by omega)
  by_cases hu:B.up live (k:Int)=true
  ·rw [hu] at hup;cases hdo:B.down
   ·have hrd:=zyV h hw (k:Int) (36+r)
    rw [zFv hdo (by omega) hu (by omega) (by omega)] at hrd
    have hg:=zFw (B:=B) live r hlt
    have:=hag (st (k+1)) ⟨k+1,by omega,fun e=>(by rw [hdo] at e; cases e),rfl⟩ (by simp [st]; omega)
    dsimp only [st] at this;rw [←zB7 live r hlt hu] at this
    simp (disch:=first | omega | assumption | (simp; done) | fail) [hlt,hup,hrd,zal,zvf,zag (zcP hg),zjR,zp4]
    rw [show ((k+1:Nat):Int)=(k:Int)+1 by omega] at this
    simpa [hdo] using this
   ·have hrd:=zyV h hw (k:Int) (36+r)
    rw [zB6 (36+r) hdo (by omega) hu] at hrd
    have hany:(List.range g.d.toNat).any (fun (d:Nat)=>B.up live d)=true:=by
     rw [List.any_eq_true]; exact ⟨k,List.mem_range.2 hlt,hu⟩
    rw [hany]
    simp (disch:=first | omega | assumption | (simp; done) | fail) [hlt,hup,hrd,zal]
    rfl
  ·have hu':B.up live (k:Int)=false:=by simpa using hu
   rw [hu'] at hup
   have:=hag (st (k+1)) ⟨k+1,by omega,fun e j hj=>by
    by_cases ej:j=k
    ·subst ej; exact hu'
    ·exact hdn e j (by omega),rfl⟩ (by simp [st]; omega)
   dsimp only [st] at this;rw [←zB8 live r hlt hu'] at this
   rw [show ((k+1:Nat):Int)=(k:Int)+1 by omega] at this
   simp (disch:=first | omega | assumption | (simp; done) | fail) [hlt,hup,zal]
   simpa using this
 ·have hke:k=g.d.toNat:=by omega
  have hno:¬ (B.down=true∧(List.range g.d.toNat).any (fun (d:Nat)=>B.up live d)=true):=by
   rintro ⟨e1,e2⟩
   rw [List.any_eq_true] at e2;obtain ⟨j,hj,hu⟩:=e2
   rw [hdn e1 j (by rw [hke]; exact List.mem_range.1 hj)] at hu; cases hu
  rw [if_neg hno]
  have htk:=zDC g r .lent (ps:=B.secP live r g.d.toNat g.d.toNat) (by rw [zvf]; omega)
  rw [zDF] at htk;subst hke
  simp (disch:=first | omega | assumption | (simp; done) | fail) [-List.all_eq_true,znB,zvf,htk]
  cases zsn g r (B.secs live r g.d.toNat) with
  | none=>simp [-List.all_eq_true,solD]; rfl
  | some o=>simp [-List.all_eq_true,solD,zgq]
end
end Wf

namespace Wf
open Go Go.RowKit Go.Proofs
set_option linter.unusedSimpArgs false
set_option linter.unusedVariables false
set_option maxHeartbeats 4000000
def zpF (w left:Int) (down:Bool) (hs:List D):List D:=[.int .i64 w,.int .i64 left,.bool down,.sl .own hs]
theorem zsc (m k:Nat):((List.range k).map fun j=>hD (m+j))++[hD (m+k)]=(List.range (k+1)).map fun j=>hD (m+j):=by simp [List.range_succ]
theorem ztK (l:List Nat):zdj (l.map hD)=true:=by simp only [zdj,List.all_map,List.all_eq_true]; intro i _; rfl
theorem zwQ (l:List Nat):zfv 1 (l.map hD)=true:=by simp only [zfv,List.all_map,List.all_eq_true]; intro i _; rfl
theorem zsK {α:Type} (k:Nat) (a:α):List.replicate k a++[a]=List.replicate (k+1) a:=by
 rw [List.replicate_succ']
theorem zDG (T0 T1:Tb) {n:Int} (h0:1≤n) (h1:n≤8):
  zby [.int .i64 n] [T0,T1]=some (Ans.mk (.tup [.h kB T0.length 0,.int .i64 0]) []
   [T0++[zpF 0 (-1) false ((List.range n.toNat).map fun j=>hD (T1.length+j))],T1++List.replicate n.toNat DS.new.cells]):=by
 rw [zsp];unfold znb
 have d1:decide (n < 1)=false:=by simp; omega
 have d2:decide (n > 8)=false:=by simp; omega
 rw [d1,zar,d2,zar,zm0]
 have hn:n=(n.toNat:Int):=by omega
 let st:Nat→(Nat×Int×Int×PUnit)×List (List D)×List (List D)×PUnit:=fun k=>
  ((T0.length,n,(k:Int),PUnit.unit),T0++[zpF 0 (-1) false ((List.range k).map fun j=>hD (T1.length+j))],T1++List.replicate k DS.new.cells,PUnit.unit)
 have h00:st 0=((T0.length,n,0,PUnit.unit),T0++[[D.own0 (D.int IntKind.i64 (0:Int)),D.own0 (D.int IntKind.i64 (-1:Int)),D.own0 (D.bool false),D.own0 (D.sl Tag.nil [])]],T1,PUnit.unit):=by
  simp [st,zpF,D.own0]
 rw [←h00]
 refine zcf st n.toNat (by omega) ?_ ?_
 ·intro again k hk;dsimp only [st]
  have hd:decide ((k:Int) < n)=true:=by simp; omega
  have hrow:(T0++[zpF 0 (-1) false ((List.range k).map fun j=>hD (T1.length+j))])[T0.length]? =some (zpF 0 (-1) false ((List.range k).map fun j=>hD (T1.length+j))):=by simp
  have hnew:=zGK (T1++List.replicate k DS.new.cells)
  have hl:(T1++List.replicate k DS.new.cells).length=T1.length+k:=by simp
  rw [hl,List.append_assoc,zsK] at hnew;rw [hd,za5,zag hrow];unfold zpF at hrow ⊢
  rw [zdJ,zdJ,zdJ,zf4,zbn,hnew,zac,zaW,zbP,zaW,zaa (by rfl),zaa (by rfl),zag hrow,zdJ,zdJ,zdJ,zf4,zbn]
  rw [zaa (by simp; omega),zaa (by rfl),zaa (by rfl),zm0,zur hrow]
  have hset:=zgO hrow (List.set [D.int .i64 0,.int .i64 (-1),.bool false,.sl .own ((List.range k).map fun j=>hD (T1.length+j))] 3 .undef)
  have hsn:=zsc T1.length k;unfold hD at hsn
  have hH:(List.map (fun j=>hD (T1.length+j)) (List.range k))++[D.h kD (T1.length+k) 0]=(List.range (k+1)).map fun j=>hD (T1.length+j):=hsn
  dsimp only
  rw [zag hset,zaa (by simp),hH,zaa (by simp)]
  have e1:((List.range (k+1)).map fun j=>hD (T1.length+j))=((List.range (k+1)).map fun j=>T1.length+j).map hD:=by rw [List.map_map]; rfl
  rw [e1,zaa (ztK _),zaa (zwQ _),zm0,zaR,zal (by omega) (by omega),zcM hset,←e1,List.set_set]
  simp [zpF]
 ·intro again;dsimp only [st]
  have hd:decide (((n.toNat:Nat):Int) < n)=false:=by simp; omega
  rw [hd,zar]
def nIdx (T1:Tb) (n:Nat):List Nat:=(List.range n).map fun j=>T1.length+j
def nT0 (T0 T1:Tb) (n:Nat):Tb:=T0++[bRow (Ben.new n) (nIdx T1 n)]
def nT1 (T1:Tb) (n:Nat):Tb:=T1++List.replicate n DS.new.cells
theorem zFx (T1:Tb) (n:Nat):((List.range n).map fun j=>hD (T1.length+j))=(nIdx T1 n).map hD:=by unfold nIdx; rw [List.map_map]; rfl
theorem zCa (T0 T1:Tb) {n:Nat} (h8:n≤8):At (nT0 T0 T1 n) (nT1 T1 n) T0.length (nIdx T1 n) (Ben.new n):=by
 refine ⟨by simp [nT0],?_,fun i hi=>?_,by simp [nIdx,Ben.new],ztq h8⟩
 ·unfold List.Nodup nIdx;rw [List.pairwise_map]
  exact List.Pairwise.imp (fun h e=>h (by omega)) (List.nodup_range (n:=n))
 ·unfold nIdx at hi;obtain ⟨j,hj,rfl⟩:=List.mem_map.1 hi;have:=List.mem_range.1 hj;simp [nT1]; omega
theorem zGT (T0 T1:Tb) (n:Nat):P0 (nT0 T0 T1 n) T0.length (nIdx T1 n) (Ben.new n)=nT0 T0 T1 n:=zxB (by unfold nT0; simp)
theorem zGU (T1:Tb) (n:Nat):P1 (nT1 T1 n) (nIdx T1 n) (Ben.new n)=nT1 T1 n:=by
 unfold P1;show putL _ _ _++[]=_;rw [List.append_nil]
 refine zkV fun j i c h1 h2=>?_
 have hj:j < n:=by have:=za1 h1; simpa [nIdx] using this
 have e1:i=T1.length+j:=by
  unfold nIdx at h1;rw [List.getElem?_map,List.getElem?_range hj] at h1;simpa using h1.symm
 have e2:c=DS.new.cells:=by
  have:(Ben.new n).ds.map DS.cells=List.replicate n DS.new.cells:=by unfold Ben.new; simp
  rw [this] at h2;rw [List.getElem?_replicate,if_pos hj] at h2;exact (Option.some.inj h2).symm
 subst e1 e2;unfold nT1
 rw [List.getElem?_append_right (by omega),show T1.length+j - T1.length=j by omega,List.getElem?_replicate,if_pos hj]
theorem zGV (T0 T1:Tb) {n:Nat} (h0:1≤n) (h8:n≤8):
  zby [.int .i64 n] [T0,T1]=some (Ans.mk (.tup [.h kB T0.length 0,.int .i64 0]) [] [P0 (nT0 T0 T1 n) T0.length (nIdx T1 n) (Ben.new n),P1 (nT1 T1 n) (nIdx T1 n) (Ben.new n)]):=by
 rw [zDG T0 T1 (by omega) (by omega),zGT,zGU,Int.toNat_natCast,zFx]
 rfl
structure Still (B:Ben):Prop where
 ok:B.Ok
 down:B.down=false
 ds:∀ s∈B.ds,s.failed=false∧s.pend=[]
theorem Still.dk {B:Ben} (h:Still B) (d:Int):(B.dk d).failed=false∧(B.dk d).pend=[]:=by
 unfold Ben.dk
 cases e:B.ds[d.toNat]? with
 | none=>exact ⟨rfl,rfl⟩
 | some s=>exact h.ds s (List.mem_of_getElem? e)
theorem Still.failed {B:Ben} (h:Still B) (d:Int):B.failed d=false:=by unfold Ben.failed; rw [(h.dk d).1,Bool.and_false]
theorem zwR {n:Nat} (h:n≤8):Still (Ben.new n):=⟨ztq h,rfl,fun s hs=>by
 unfold Ben.new at hs;rw [(List.mem_replicate.1 hs).2]; exact ⟨rfl,rfl⟩⟩
theorem zEg (n:Nat) (d:Int):(Ben.new n).dk d=DS.new:=by
 unfold Ben.dk Ben.new;dsimp only;rw [List.getElem?_replicate];split<;>rfl
theorem zDH {a:Nat} (ha:a < 52):DS.new.base a=zgk:=by
 unfold DS.base;show ((List.replicate 1664 (0:Int)).drop (a*32)).take 32=_;rw [List.drop_replicate,List.take_replicate];unfold zgk;congr 1;omega
theorem zxW (n:Nat) (d:Int) {a:Int} (a0:0≤a) (a1:a < 52):(Ben.new n).cur d a=zgk:=by
 unfold Ben.cur;rw [zEg];show look [] a (DS.new.base a.toNat)=_
 rw [zoa,zDH (by omega)]
section
variable {B:Ben} {d a:Int} {x:List Int}
theorem zwS (h:Still B) (hx:Sec x):Still (B.damage d a x).2∧(B.damage d a x).2.n=B.n∧(B.damage d a x).2.w=B.w∧(B.damage d a x).2.left=B.left:=by
 refine ⟨⟨(zwk h.ok (.inl hx)).ok,?_,?_⟩,(zwk (d:=d) (a:=a) h.ok (.inl hx)).n,?_,?_⟩
 ·unfold Ben.damage; split<;>exact h.down
 ·unfold Ben.damage;split
  ·intro s hs;rcases List.mem_or_eq_of_mem_set hs with hs | hs
   ·exact h.ds s hs
   ·subst hs;unfold DS.damage;dsimp only;split
    ·exact h.dk d
    ·exact h.dk d
  ·exact h.ds
 ·unfold Ben.damage; split<;>rfl
 ·unfold Ben.damage; split<;>rfl
theorem zz0 (h:Still B) (hd:B.is d=true) (a0:0≤a) (a1:a < 52) (hx:Sec x) {e b:Int} (e0:0≤e) (b0:0≤b) (b1:b < 52):
  (B.damage d a x).1=0∧(B.damage d a x).2.cur e b=if e=d∧b=a then x else B.cur e b:=by
 have hk:=h.dk d;have hw:(B.dk d).mayW a x=0:=zxy (zm3.2 ⟨hk.1,a0,a1⟩) hx.len
 have e1:(B.dk d).damage a x=(0,(B.dk d).setSec a.toNat x):=by unfold DS.damage; rw [hw,if_pos rfl]
 unfold Ben.damage;rw [if_pos hd,e1];refine ⟨rfl,?_⟩;unfold Ben.cur;rw [zeq hd e0]
 by_cases he:e=d
 ·subst he;rw [if_pos rfl];have hp:((B.dk e).setSec a.toNat x).pend=[]:=hk.2;unfold DS.sec
  rw [hp,hk.2,zoa,zoa,zry (zh2 h.ok e).1.len (by omega) hx.len b.toNat (by omega)]
  by_cases hb:b=a
  ·rw [if_pos (by omega),if_pos ⟨rfl,hb⟩]
  ·rw [if_neg (by omega),if_neg (fun q=>hb q.2)]
 ·rw [if_neg he,if_neg (fun q=>he q.1)]
end
def Ben.dmgs (B:Ben) (a:Int) (xs:List (List Int)):Nat→Ben
 | 0=>B
 | k+1=>((B.dmgs a xs k).damage (k:Int) a (xs.getD k [])).2
def rowL (g:Geo) (l:List Int) (r:Nat):List (List Int):=secL (l.drop (min r l.length)) g.width.toNat
theorem zvg {g:Geo} (hk:g.ok=true) (l:List Int) (r:Nat):Row g (rowL g l r):=⟨by have:=zdn hk; simp [rowL]; omega,zy1 _ _⟩
def zi7 (gs:Nat→Geo) (l:List Int) (n:Nat):Nat→Ben
 | 0=>.new n
 | r+1=>(zi7 gs l n r).dmgs (36+(r:Int)) (zcW (gs r) r (rowL (gs r) l r)) (min (gs r).d.toNat n)
structure Filld (gs:Nat→Geo) (l:List Int) (n:Nat) (R:Nat) (B:Ben):Prop where
 still:Still B
 num:B.n=n
 w:B.w=0
 left:B.left= -1
 cur:∀ d a:Int,0≤d→0≤a→a < 52→B.cur d a=if 36≤a∧a < 36+R∧d < (gs (a - 36).toNat).d∧d < n then atR (gs (a - 36).toNat) (a - 36) (rowL (gs (a - 36).toNat) l (a - 36).toNat) d else zgk
theorem zsd {g:Geo} {r:Int} {data:List (List Int)} {d:Nat} (h:(d:Int) < g.d):(zcW g r data).getD d []=atR g r data d:=by
 rw [List.getD_eq_getElem?_getD,ziF h]; rfl
theorem zpG {gs:Nat→Geo} {l:List Int} {n R:Nat} {B:Ben} (h:Filld gs l n R B) (hR:R < 16) (hk:(gs R).ok=true):∀ k,k≤min (gs R).d.toNat n→
  Still (B.dmgs (36+(R:Int)) (zcW (gs R) R (rowL (gs R) l R)) k)∧(B.dmgs (36+(R:Int)) (zcW (gs R) R (rowL (gs R) l R)) k).n=n∧(B.dmgs (36+(R:Int)) (zcW (gs R) R (rowL (gs R) l R)) k).w=0∧(B.dmgs (36+(R:Int)) (zcW (gs R) R (rowL (gs R) l R)) k).left= -1∧
  ∀ d a:Int,0≤d→0≤a→a < 52→(B.dmgs (36+(R:Int)) (zcW (gs R) R (rowL (gs R) l R)) k).cur d a=if a=36+R∧d < k then atR (gs R) R (rowL (gs R) l R) d else B.cur d a
 | 0,_=>⟨h.still,h.num,h.w,h.left,fun d a d0 a0 a1=>by rw [if_neg (by omega)]; rfl⟩
 | k+1,hk'=>by
  obtain ⟨i1,i2,i3,i4,i5⟩:=zpG h hR hk k (by omega)
  have hr:zcN (gs R) (R:Int)=true:=zbV.2 ⟨hk,by omega,by omega⟩
  have hsec:=zwn hr (zvg hk l R) (d:=(k:Int)) (by omega) (by omega)
  have hg:=zsd (g:=gs R) (r:=R) (data:=rowL (gs R) l R) (d:=k) (by omega)
  generalize hB:B.dmgs (36+(R:Int)) (zcW (gs R) R (rowL (gs R) l R)) k=C at*
  have hC:B.dmgs (36+(R:Int)) (zcW (gs R) R (rowL (gs R) l R)) (k+1)=(C.damage (k:Int) (36+(R:Int)) (atR (gs R) R (rowL (gs R) l R) k)).2:=by
   show ((B.dmgs (36+(R:Int)) (zcW (gs R) R (rowL (gs R) l R)) k).damage (k:Int) (36+(R:Int)) ((zcW (gs R) R (rowL (gs R) l R)).getD k [])).2=_;rw [hB,hg]
  rw [hC]
  have hd:C.is (k:Int)=true:=zc4.2 ⟨by omega,by rw [i2]; omega⟩
  obtain ⟨j1,j2,j3,j4⟩:=zwS (d:=(k:Int)) (a:=36+(R:Int)) i1 hsec
  refine ⟨j1,j2.trans i2,j3.trans i3,j4.trans i4,fun d a d0 a0 a1=>?_⟩
  rw [(zz0 i1 hd (by omega) (by omega) hsec d0 a0 a1).2,i5 d a d0 a0 a1]
  by_cases ha:a=36+(R:Int)
  ·by_cases hdk:d=k
   ·subst hdk; rw [if_pos ⟨rfl,ha⟩,if_pos ⟨ha,by omega⟩]
   ·rw [if_neg (fun q=>hdk q.1)]
    by_cases hlt:d < k
    ·rw [if_pos ⟨ha,hlt⟩,if_pos ⟨ha,by omega⟩]
    ·rw [if_neg (fun q=>hlt q.2),if_neg (fun q=>by omega)]
  ·rw [if_neg (fun q=>ha q.2),if_neg (fun q=>ha q.1),if_neg (fun q=>ha q.1)]
theorem zlF {gs:Nat→Geo} {l:List Int} {n:Nat} (n8:n≤8) (hk:∀ r,(gs r).ok=true):∀ R,R≤16→Filld gs l n R (zi7 gs l n R)
 | 0,_=>⟨zwR n8,by simp [zi7,Ben.new,Ben.n],rfl,rfl,fun d a d0 a0 a1=>by rw [if_neg (by omega)]; exact zxW n d a0 a1⟩
 | R+1,hR=>by
  have ih:=zlF (l:=l) n8 hk R (by omega)
  obtain ⟨i1,i2,i3,i4,i5⟩:=zpG ih (by omega) (hk R) (min (gs R).d.toNat n) (Nat.le_refl _)
  refine ⟨i1,i2,i3,i4,fun d a d0 a0 a1=>?_⟩
  show ((zi7 gs l n R).dmgs (36+(R:Int)) (zcW (gs R) R (rowL (gs R) l R)) (min (gs R).d.toNat n)).cur d a=_;rw [i5 d a d0 a0 a1,ih.cur d a d0 a0 a1];have hdd:=ok_d (hk R)
  by_cases ha:a=36+(R:Int)
  ·have e:(a - 36).toNat=R:=by omega
   have e2:a - 36=(R:Int):=by omega
   rw [e,e2]
   by_cases hlt:d < (gs R).d∧d < n
   ·rw [if_pos ⟨ha,by omega⟩,if_pos ⟨by omega,by omega,hlt.1,hlt.2⟩]
   ·rw [if_neg (fun q=>hlt ⟨by omega,by omega⟩),if_neg (fun q=>by omega),if_neg (fun q=>hlt ⟨q.2.2.1,q.2.2.2⟩)]
  ·rw [if_neg (fun q=>ha q.1)]
   by_cases hc:36≤a∧a < 36+(R:Int)∧d < (gs (a - 36).toNat).d∧d < n
   ·rw [if_pos hc,if_pos ⟨hc.1,by omega,hc.2.2.1,hc.2.2.2⟩]
   ·rw [if_neg hc,if_neg (fun q=>hc ⟨q.1,by omega,q.2.2.1,q.2.2.2⟩)]
end Wf

namespace Wf
open Go Go.RowKit Go.Proofs
set_option linter.unusedSimpArgs false
set_option linter.unusedVariables false
set_option maxHeartbeats 4000000
theorem zCb (l:List Int) (n:Nat):(intL l).drop n=intL (l.drop n):=by simp [intL,List.map_drop]
theorem zz1 (l:List Int):zsl 1 (intL l)=true:=by simp [zsl,intL,D.cell,D.width]
theorem zCc (l:List Int) (r:Int) (r0:0≤r):cutI (min r (l.length:Int)) (l.length:Int) (intL l)=intL (l.drop (min r.toNat l.length)):=by
 unfold cutI
 have:(min r (l.length:Int)).toNat=min r.toNat l.length:=by omega
 rw [this,zCb,List.take_of_length_le (by rw [zgP]; simp; omega)]
section
variable {T0 T1:Tb}
end
end Wf

namespace Wf
open Go Go.RowKit Go.Proofs
set_option linter.unusedSimpArgs false
set_option linter.unusedVariables false
set_option maxHeartbeats 4000000
theorem zCd {p:Nat→Bool} {a n:Nat} (h:∀ i,i < n→p i=true→i=a):(List.range n).countP p≤1:=by
 have:∀ n,(∀ i,i < n→p i=true→i=a)→(List.range n).countP p≤if a < n then 1 else 0:=by
  intro n
  induction n with
  | zero=>simp
  | succ n ih=>
   intro h
   have ih:=ih fun i hi hp=>h i (by omega) hp
   rw [List.range_succ,List.countP_append,List.countP_singleton]
   by_cases hp:p n=true
   ·rw [if_pos hp]
    have e:=h n (by omega) hp
    subst e; rw [if_neg (by omega)] at ih; rw [if_pos (by omega)]; omega
   ·rw [if_neg hp];split at ih<;>split<;>omega
 have:=this n h;split at this<;>omega
section
variable {B:Ben} {d a:Int}
theorem zDI (hd:B.is d=true) {e b:Int} (e0:0≤e) (hne:e≠d):(B.fail d).2.cur e b=B.cur e b:=by
 unfold Ben.fail;rw [if_pos hd];unfold Ben.cur;rw [zeq hd e0,if_neg hne]
theorem zxX (hd:B.is d=true) {e:Int} (he:B.is e=true):(B.fail d).2.failed e=(decide (e=d) || B.failed e):=by
 unfold Ben.fail;rw [if_pos hd];unfold Ben.failed;rw [zxA,he,zeq hd (zc4.1 he).1]
 by_cases h:e=d
 ·subst h; rw [if_pos rfl,show DS.dead.failed=true from rfl]; simp
 ·rw [if_neg h]; simp [h]
theorem zCe (hd:B.is d=true):(B.fail d).1=0∧(B.fail d).2.n=B.n∧(B.fail d).2.down=B.down∧(B.fail d).2.left=B.left∧(B.fail d).2.w=B.w:=by
 unfold Ben.fail;rw [if_pos hd]
 exact ⟨rfl,by simp,rfl,rfl,rfl⟩
end
theorem zDJ {n:Nat} {d:Int} (d0:0≤d):((List.replicate n true)[d.toNat]?).getD false=decide (d < n):=by
 rw [List.getElem?_replicate]
 by_cases h:d < n
 ·rw [if_pos (by omega)]; simp [h]
 ·rw [if_neg (by omega)]; simp [h]
theorem zGW {B:Ben} {n:Nat} (hn:B.n=n) {d:Int} (d0:0≤d):B.up (List.replicate n true) d=(decide (d < n) && !B.failed d):=by
 unfold Ben.up;rw [zDJ d0,hn];cases decide (d < (n:Int))<;>simp
theorem zy6 (B:Ben) (live:List Bool) (g:Geo) (r:Int) (data:List (List Int)):nW (B.wActs live g r data)≤g.d.toNat:=by
 unfold Ben.wActs
 have:∀ n,nW ((List.range n).flatMap fun (d:Nat)=>if B.up live d then [Act.w d (36+r) (atR g r data d)] else [])≤n:=by
  intro n
  induction n with
  | zero=>simp [nW]
  | succ n ih=>
   rw [List.range_succ,List.flatMap_append,zrD]
   have:nW (List.flatMap (fun (d:Nat)=>if B.up live d then [Act.w d (36+r) (atR g r data d)] else []) [n])≤1:=by
    simp only [List.flatMap_cons,List.flatMap_nil,List.append_nil];split
    ·exact Nat.le_trans (List.length_filter_le _ _) (by simp)
    ·simp [nW]
   omega
 exact this _
theorem zvh (B:Ben) (live:List Bool):nW (B.fActs live)=0:=by
 unfold Ben.fActs nW;rw [List.length_eq_zero_iff,List.filter_eq_nil_iff];intro a ha;obtain ⟨d,_,ha⟩:=List.mem_flatMap.1 ha;split at ha
 ·rw [List.mem_singleton.1 ha]; simp [Act.isW]
 ·cases ha
theorem zxY {B:Ben} (hB:B.Ok) (hd:B.down=false) {live:List Bool} {g:Geo} {r:Int} {data:List (List Int)} (hr:zcN g r=true) (hR:Row g data) (hl:B.left < 0∨8≤B.left):
  B.sWrite live g r data=(0,does B (B.wActs live g r data))∧Does B (B.wActs live g r data):=by
 have hdd:=ok_d (zbV.1 hr).1;have hn:=zy6 B live g r data
 have:=zjn (B.wActs live g r data) hB hd (zDe hr hR) (by omega)
 refine ⟨?_,this⟩;unfold Ben.sWrite
 rw [zrG hr hR,if_neg (by simp),this.run]
theorem zxZ {B:Ben} (hB:B.Ok) (hd:B.down=false) (live:List Bool) (hl:B.left < 0∨0≤B.left):B.sFlush live=(0,does B (B.fActs live))∧Does B (B.fActs live):=by
 have:=zjn (B.fActs live) hB hd zDf (by rw [zvh]; omega)
 exact ⟨this.run,this⟩
theorem zCf {B:Ben} {live:List Bool} (h:Does B (B.fActs live)) {e b:Int} (e0:0≤e) (b0:0≤b) (b1:b < 52):(does B (B.fActs live)).cur e b=B.cur e b:=by
 rw [h.cur e b e0 b0 b1];exact zlX (zDg e b) _
theorem zCg {B:Ben} {live:List Bool} {g:Geo} {r:Int} {data:List (List Int)} (h:Does B (B.wActs live g r data)) {e b:Int} (e0:0≤e) (e1:e < g.d) (b0:0≤b) (b1:b < 52):
  (does B (B.wActs live g r data)).cur e b=if b=36+r∧B.up live e=true then atR g r data e else B.cur e b:=by
 rw [h.cur e b e0 b0 b1]
 by_cases hc:b=36+r∧B.up live e=true
 ·rw [if_pos hc,hc.1]
  have:=zBK (B:=B) (live:=live) (g:=g) (r:=r) (data:=data) (d:=e.toNat) (by omega) (by rw [show ((e.toNat:Nat):Int)=e by omega]; exact hc.2) B.cur
  rw [show ((e.toNat:Nat):Int)=e by omega] at this
  exact this
 ·rw [if_neg hc];refine zlX (zxD ?_) _
  by_cases hb:b=36+r
  ·refine .inr ?_;cases hu:B.up live e
   ·rfl
   ·exact absurd ⟨hb,hu⟩ hc
  ·exact .inl hb
theorem zy7 (f:Nat→Int) {n:Nat}:sumK f 32 (List.replicate n zgk) n=zgk:=by
 have hs:∀ l∈List.replicate n zgk,l.length=32:=by intro l hl; rw [(List.mem_replicate.1 hl).2]; exact zkQ.len
 have hl:(sumK f 32 (List.replicate n zgk) n).length=32:=zlU hs (by simp)
 refine zBn (by rw [hl,zkQ.len]) fun i hi=>?_
 rw [hl] at hi
 rw [ztn hs hi (by simp),zkR]
 have:∀ k,k≤n→xsum (fun j=>mul8 (getB ((List.replicate n zgk).getD j []) i) (f j)) k=0:=by
  intro k
  induction k with
  | zero=>intro _; rfl
  | succ k ih=>
   intro hk
   have e:(List.replicate n zgk).getD k []=zgk:=by rw [List.getD_eq_getElem?_getD,List.getElem?_replicate,if_pos (by omega)]; rfl
   show xor8 (xsum _ k) (mul8 (getB ((List.replicate n zgk).getD k []) i) (f k))=0
   rw [ih (by omega),e,zkR,zn7]; rfl
 exact this n (Nat.le_refl _)
def znD (g:Geo):List (List Int):=List.replicate g.width.toNat zgk
theorem zDK {g:Geo} (hk:g.ok=true):Row g (znD g):=⟨by have:=zdn hk; simp [znD]; omega,fun x hx=>by rw [(List.mem_replicate.1 hx).2]; exact zkQ⟩
theorem zFy {g:Geo} {r d:Int} (hr:zcN g r=true) (d0:0≤d) (d1:d < g.d):atR g r (znD g) d=zgk:=by
 unfold atR;split
 ·unfold sumP znD; rw [List.length_replicate]; exact zy7 _
 ·rename_i h1;split
  ·unfold sumQ znD; rw [List.length_replicate]; exact zy7 _
  ·rename_i h2;obtain ⟨c0,c1,_⟩:=zlZ hr d0 d1 h1 h2;unfold znD
   rw [List.getD_eq_getElem?_getD,List.getElem?_replicate,if_pos (by omega)]; rfl
end Wf

namespace Wf
open Go Go.RowKit Go.Proofs
set_option linter.unusedSimpArgs false
set_option linter.unusedVariables false
set_option maxHeartbeats 4000000
theorem zz2 (l:List Bool):(l.map D.bool).all D.free=true:=by rw [List.all_map,List.all_eq_true]; intro b _; rfl
theorem zz3 {d k:Nat} (hk:k < d):((List.range d).map fun i=>D.bool (decide (i < k))).set k (.bool true)=(List.range d).map fun i=>D.bool (decide (i < k+1)):=by
 apply List.ext_getElem?;intro j;rw [List.getElem?_set]
 by_cases hj:j < d
 ·by_cases hjk:k=j
  ·subst hjk; simp [hj]
  ·rw [if_neg hjk];simp only [List.getElem?_map,List.getElem?_range hj,Option.map_some,Option.some.injEq,D.bool.injEq,decide_eq_decide];omega
 ·have h1:k≠j:=by omega
  rw [if_neg h1,List.getElem?_eq_none (by simp; omega),List.getElem?_eq_none (by simp; omega)]
theorem zDL {d:Nat} (h0:1≤d) (h8:d≤8):zbE [.int .i64 0,.int .i64 d]=some (.sl .own ((List.replicate d true).map D.bool)):=by
 rw [zme];unfold zfL
 rw [zaa (by omega),zaa (by rfl),zaa (by omega),zaa (by omega),zaa (by simp),zaa (by simp),Int.toNat_natCast]
 let st:Nat→(Int×Int×List D×Int×Int×PUnit)×PUnit:=fun k=>((0,(d:Int),(List.range d).map (fun i=>D.bool (decide (i < k))),(d:Int),(k:Int),PUnit.unit),PUnit.unit)
 have hst:st 0=((0,(d:Int),List.replicate d (D.bool false),(d:Int),0,PUnit.unit),PUnit.unit):=by
  have:(List.range d).map (fun i=>D.bool (decide (i < 0)))=List.replicate d (D.bool false):=by
   apply List.ext_getElem?; intro j
   by_cases hj:j < d
   ·simp [hj]
   ·rw [List.getElem?_eq_none (by simp; omega),List.getElem?_eq_none (by simp; omega)]
  simp only [st,this]; rfl
 rw [←hst]
 refine zcf st d (by omega) ?_ ?_
 ·intro again k hk;dsimp only [st]
  have hd:decide ((k:Int) < (d:Int))=true:=by simp; omega
  have hg:((List.range d).map (fun i=>D.bool (decide (i < k))))[k]? =some (.bool false):=by simp [hk]
  rw [hd,za5,zaa (by omega),zaa (by simp; omega),Nat.zero_add,show Int.toNat (k:Int)=k from rfl,zag hg,zaa (by rfl),zaR,zal (by omega) (by omega),zaa (by simp),zz3 hk]
  rfl
 ·intro again;dsimp only [st]
  have hd:decide ((d:Int) < (d:Int))=false:=by simp
  have hd1:decide ((d:Int) > 0)=true:=by simp; omega
  have hall:(List.range d).map (fun i=>D.bool (decide (i < d)))=(List.replicate d true).map D.bool:=by
   apply List.ext_getElem?; intro j
   by_cases hj:j < d
   ·simp [hj]
   ·rw [List.getElem?_eq_none (by simp; omega),List.getElem?_eq_none (by simp; omega)]
  have hz:decide ((0:Int) % 3 > 0)=false:=rfl;have hz2:((0:Int) % 9 == 8)=false:=rfl
  rw [hd,zar,hd1,za5,zpy 0 3 (by omega) (by omega),zac,zbg,hz,zar,za5,zpy 0 9 (by omega) (by omega),zac,zbg,hz2,zar,zaa (by rfl),hall,zaa (zz2 _)]
end Wf

namespace Wf
open Go Go.RowKit
universe u
def idf {α:Sort u} (a:α):α:=a
@[simp] theorem zcw {α:Sort u} (a:α):idf a=a:=congrFun (funext fun _=>rfl) a
section
variable {R α β:Type}
@[congr high] theorem zHg {b b':Bool} {x y:Option R} (h:idf b=b'):brK b x y=brK b' x y:=by rw [zcw] at h; rw [h]
@[congr high] theorem zFZ {x x':Option α} {f:α→Option R} (h:idf x=x'):zaq x f=zaq x' f:=by rw [zcw] at h; rw [h]
@[congr high] theorem zHh {c c':Prop} [d:Decidable c] [d':Decidable c'] {x:Option R} (h:idf c=c'):sif c x=sif c' x:=by rw [zcw] at h; subst h; congr
@[congr high] theorem zGX {n n':Int} {f:Int→Option R} (h:idf n=n'):letN n f=letN n' f:=by rw [zcw] at h; rw [h]
@[congr high] theorem zGY {l l':List α} {i i':Nat} {f:α→Option R} (h:idf l=l') (h':idf i=i'):getK l i f=getK l' i' f:=by rw [zcw] at h h'; rw [h,h']
@[congr high] theorem zHi {k:IntKind} {d d':D} {f:Int→Option R} (h:idf d=d'):asI k d f=asI k d' f:=by rw [zcw] at h; rw [h]
@[congr high] theorem zHj {d d':D} {f:Bool→Option R} (h:idf d=d'):asB d f=asB d' f:=by rw [zcw] at h; rw [h]
@[congr high] theorem zHk {d d':D} {f:ByteArray→Option R} (h:idf d=d'):asS d f=asS d' f:=by rw [zcw] at h; rw [h]
@[congr high] theorem zGZ {d d':D} {f:Tag→List D→Option R} (h:idf d=d'):asSl d f=asSl d' f:=by rw [zcw] at h; rw [h]
@[congr high] theorem zF0 {d d':D} {f:List D→Option R} (h:idf d=d'):za0 d f=za0 d' f:=by rw [zcw] at h; rw [h]
@[congr high] theorem zFz {d d':D} {f:List D→Option R} (h:idf d=d'):zmB d f=zmB d' f:=by rw [zcw] at h; rw [h]
@[congr high] theorem zF1 {d d':D} {f:List D→Option R} (h:idf d=d'):asAgg d f=asAgg d' f:=by rw [zcw] at h; rw [h]
@[congr high] theorem zF2 {d d':D} {f:List D→Option R} (h:idf d=d'):zdG d f=zdG d' f:=by rw [zcw] at h; rw [h]
@[congr high] theorem zG0 {d d':D} {f:D→Option R} (h:idf d=d'):asAt d f=asAt d' f:=by rw [zcw] at h; rw [h]
@[congr high] theorem zF3 {d d':List D} {f:D→Option R} (h:idf d=d'):zAT d f=zAT d' f:=by rw [zcw] at h; rw [h]
@[congr high] theorem zHl {k:Nat} {d d':D} {f:Nat→Option R} (h:idf d=d'):asH k d f=asH k d' f:=by rw [zcw] at h; rw [h]
@[congr high] theorem zF4 {d d':D} {f:Bool→Option R} (h:idf d=d'):znV d f=znV d' f:=by rw [zcw] at h; rw [h]
@[congr high] theorem zFA {d d':D} {f:Bool→Option R} (h:idf d=d'):zq7 d f=zq7 d' f:=by rw [zcw] at h; rw [h]
@[congr high] theorem zFB {kk:MK} {d d':D} {f:List (Int×D)→Option R} (h:idf d=d'):ziy kk d f=ziy kk d' f:=by rw [zcw] at h; rw [h]
@[congr high] theorem zF5 {kk:MK} {d d':D} {f:List (Int×D)→Option R} (h:idf d=d'):zq8 kk d f=zq8 kk d' f:=by rw [zcw] at h; rw [h]
@[congr high] theorem zG1 {T T':Tb} {f:Tb→Option R} (h:idf T=T'):letT T f=letT T' f:=by rw [zcw] at h; rw [h]
@[congr high] theorem zF6 {l l':List α} {f:α→List α→Option R} (h:idf l=l'):zb8 l f=zb8 l' f:=by rw [zcw] at h; rw [h]
@[congr high] theorem zG2 {l l':List α} {x:Option R} (h:idf l=l'):nilK l x=nilK l' x:=by rw [zcw] at h; rw [h]
@[congr high] theorem zDM {ls:List Lf} {d d':List D} {f:LfT ls→Option R} (h:idf d=d'):zat ls d f=zat ls d' f:=by rw [zcw] at h; rw [h]
@[congr high] theorem zF7 {B:(α→Option R)→α→Option R} {a a':α} (h:idf a=a'):zb7 B a=zb7 B a':=by rw [zcw] at h; rw [h]
end
@[simp] theorem zy8 (k i:Nat):zha (.h k i 0)=true:=rfl
@[simp] theorem zHJ (k i:Nat):D.free (.h k i 0)=true:=rfl
@[simp] theorem zgj {R:Type} (a b:D) (f:LfT [.any,.any]→Option R):zat [.any,.any] [a,b] f=f (a,b,()):=by rw [zdf,zdf,zd4]
@[simp] theorem zHm {β:Type} {l:List β} {n:Nat} (h:l.length=n):cut 0 n l=l:=by subst h; exact zdq l
end Wf

namespace Wf
open Go Go.RowKit Go.Proofs
set_option linter.unusedSimpArgs false
set_option linter.unusedVariables false
set_option maxHeartbeats 4000000
theorem zCh {T0:Tb} {b:Nat} {idx:List Nat}:∀ (l:List Act) (B:Ben),(∀ a∈l,a.isW=false)→P0 T0 b idx (does B l)=P0 T0 b idx B
 | [],B,_=>rfl
 | a::l,B,h=>by
  show P0 T0 b idx (does (B.does1 a) l)=_
  rw [zCh l _ fun a ha=>h a (List.mem_cons_of_mem _ ha)]
  have:=h a (List.mem_cons_self ..)
  cases a with
  | w d a x=>cases this
  | f d=>rfl
theorem zFC (B:Ben) (live:List Bool):∀ a∈B.fActs live,a.isW=false:=by
 intro a ha;unfold Ben.fActs at ha;obtain ⟨e,he,ha⟩:=List.mem_flatMap.1 ha;split at ha
 ·rw [List.mem_singleton.1 ha]; rfl
 ·cases ha
structure Run (U V:Tb) (b:Nat) (idx:List Nat) (B:Ben) (n:Nat) (K:Int):Prop where
 at':At U V b idx B
 num:B.n=n
 down:B.down=false
 left:B.left= -1
 w:B.w≤K
theorem Run.mono {U V:Tb} {b:Nat} {idx:List Nat} {B:Ben} {n:Nat} {K L:Int} (h:Run U V b idx B n K) (hk:K≤L):Run U V b idx B n L:=⟨h.at',h.num,h.down,h.left,by have:=h.w; omega⟩
section
variable {U V:Tb} {b:Nat} {idx:List Nat} {B:Ben} {n:Nat} {K:Int}
theorem Run.up (h:Run U V b idx B n K) {d:Int} (d0:0≤d):B.up (List.replicate n true) d=(decide (d < n) && !B.failed d):=zGW h.num d0
theorem Run.is (h:Run U V b idx B n K) {d:Int} (d0:0≤d) (d1:d < n):B.is d=true:=zc4.2 ⟨d0,by rw [h.num]; exact d1⟩
theorem Run.write (h:Run U V b idx B n K) (hK:K≤900000) (tg:Tag) (live:List Bool) {g:Geo} {r:Int} (hr:zcN g r=true) (tg2:Tag) {data:List (List Int)} (hR:Row g data):∃ B1,
  zie [.h kB b 0,.sl tg (live.map D.bool),.agg [.int .i64 g.l,.int .i64 g.d,.int .i64 g.c],.int .i64 r,.sl tg2 (pL (fP data))] [P0 U b idx B,P1 V idx B]=some (Ans.mk (.int .i64 0) [] [P0 U b idx B1,P1 V idx B1])∧
  Run U V b idx B1 n (K+8)∧(∀ e,B1.failed e=B.failed e)∧B1=does B (B.wActs live g r data)∧(∀ e a:Int,0≤e→e < g.d→0≤a→a < 52→B1.cur e a=if a=36+r∧B.up live e=true then atR g r data e else B.cur e a):=by
 obtain ⟨hw1,hD1⟩:=zxY h.at'.ok h.down (live:=live) hr hR (.inl (by rw [h.left]; omega))
 have hdd:=ok_d (zbV.1 hr).1;have hw:=h.w;have hwd:=zdn (zbV.1 hr).1
 have hsw:=zwO h.at' (by omega) tg live g r tg2 (ps:=fP data) (by have:=hR.len; simp; omega) (by intro x hx; obtain ⟨y,hy,rfl⟩:=List.mem_map.1 hx; exact hR.sec y hy)
 rw [ztE,hw1] at hsw;have hn:=zy6 B live g r data;have hnx:=hD1.nx.w
 refine ⟨does B (B.wActs live g r data),hsw,⟨h.at'.nx hD1.nx,hD1.nx.n.trans h.num,hD1.down.trans h.down,by rw [hD1.left,h.left]; rfl,by omega⟩,hD1.failed,rfl,fun e a e0 e1 a0 a1=>zCg hD1 e0 e1 a0 a1⟩
theorem Run.flush (h:Run U V b idx B n K) (hK:K≤900000) (tg:Tag) (live:List Bool):∃ B1,
  zih [.h kB b 0,.sl tg (live.map D.bool)] [P0 U b idx B,P1 V idx B]=some (Ans.mk (.int .i64 0) [] [P1 V idx B1])∧P0 U b idx B=P0 U b idx B1∧
  Run U V b idx B1 n K∧(∀ e,B1.failed e=B.failed e)∧B1=does B (B.fActs live)∧(∀ e a:Int,0≤e→0≤a→a < 52→B1.cur e a=B.cur e a):=by
 obtain ⟨hw1,hD1⟩:=zxZ h.at'.ok h.down live (.inl (by rw [h.left]; omega))
 have hw:=h.w
 have hsf:=zwP h.at' (by omega) tg live
 rw [hw1] at hsf;have hnx:=hD1.nx.w;rw [zvh] at hnx
 refine ⟨does B (B.fActs live),hsf,(zCh _ _ (zFC B live)).symm,⟨h.at'.nx hD1.nx,hD1.nx.n.trans h.num,hD1.down.trans h.down,by rw [hD1.left,h.left,zvh]; rfl,by omega⟩,hD1.failed,rfl,fun e a e0 a0 a1=>zCf hD1 e0 a0 a1⟩
theorem Run.fail (h:Run U V b idx B n K) {d:Int} (d0:0≤d) (d1:d < n):∃ B1,
  zbf [.h kB b 0,.int .i64 d] [P0 U b idx B,P1 V idx B]=some (Ans.mk (.int .i64 0) [] [P1 V idx B1])∧P0 U b idx B=P0 U b idx B1∧
  Run U V b idx B1 n K∧(∀ e:Int,0≤e→e < n→B1.failed e=(decide (e=d) || B.failed e))∧B1=(B.fail d).2∧(∀ e a:Int,0≤e→e≠d→B1.cur e a=B.cur e a):=by
 have hd:=h.is d0 d1;obtain ⟨f1,f2,f3,f4,f5⟩:=zCe hd;have hf:=zGN h.at' d;rw [f1] at hf
 have hp:P0 U b idx B=P0 U b idx (B.fail d).2:=by unfold Ben.fail; rw [if_pos hd]; rfl
 have hnx:=zFd (d:=d) h.at'.ok
 refine ⟨(B.fail d).2,hf,hp,⟨h.at'.nx hnx,f2.trans h.num,f3.trans h.down,f4.trans h.left,by rw [f5]; exact h.w⟩,fun e e0 e1=>zxX hd (h.is e0 e1),rfl,fun e a e0 hne=>zDI hd e0 hne⟩
theorem Run.read (h:Run U V b idx B n K) (hK:K≤900000) (tg:Tag) (live:List Bool) (g:Geo) (r:Int):
  zb6 [.h kB b 0,.sl tg (live.map D.bool),.agg [.int .i64 g.l,.int .i64 g.d,.int .i64 g.c],.int .i64 r] [P0 U b idx B,P1 V idx B]=some (Ans.mk (.tup [.sl .own (pL (fP (B.sRead live g r).1)),.int .i64 (B.sRead live g r).2]) [] []):=
 zsb h.at' (by have:=h.w; omega) tg live g r
end
end Wf

namespace Wf
open Go Go.RowKit Go.Proofs
set_option linter.unusedSimpArgs false
set_option linter.unusedVariables false
set_option maxHeartbeats 4000000
@[simp ↓] theorem zHK {R α:Type} (g:α→Option R) (f:(α→Option R)→Option R):jn g f=f g:=rfl
theorem zFD {R α:Type} {g:α→Option R} {f:(α→Option R)→Option R} {r:Option R} (I:α→Prop) (hg:∀ a,I a→g a=r) (hf:∀ j,(∀ a,I a→j a=r)→f j=r):jn g f=r:=hf g hg
section
variable {T0 T1:Tb} {b:Nat} {idx:List Nat} {B:Ben}
end
end Wf

namespace Wf
open Go Go.RowKit Go.Proofs
set_option linter.unusedSimpArgs false
set_option linter.unusedVariables false
set_option maxHeartbeats 4000000
def Ben.nP (B:Ben) (d:Int):Nat:=(B.dk d).pend.length
section
variable {B:Ben}
theorem zy9 {a:Act} (h:a.Ok B) {e:Int} (e0:0≤e):(B.does1 a).nP e=match a with
  | .w d _ _=>if e=d then B.nP e+1 else B.nP e
  | .f d=>if e=d then 0 else B.nP e:=by
 cases a with
 | w d a x=>
  show (((B.junk ((B.dk d).write a x).2).less.setD d ((B.dk d).add a x)).dk e).pend.length=if e=d then B.nP e+1 else B.nP e
  rw [zeq (by simpa using h.1) e0]
  by_cases he:e=d
  ·subst he; rw [if_pos rfl,if_pos rfl]; simp [DS.add,Ben.nP]
  ·rw [if_neg he,if_neg he]; rfl
 | f d=>
  show ((B.setD d (B.dk d).flushed).dk e).pend.length=if e=d then 0 else B.nP e
  rw [zeq h.1 e0]
  by_cases he:e=d
  ·subst he; rw [if_pos rfl,if_pos rfl]; rfl
  ·rw [if_neg he,if_neg he]; rfl
theorem zFE {as':List Act} (hB:B.Ok):(∀ a∈as',a.Ok B)→(does B as').Ok∧∀ c:Act,c.Ok B→c.Ok (does B as'):=by
 induction as' generalizing B with
 | nil=>intro _; exact ⟨hB,fun c hc=>hc⟩
 | cons a l ih=>
  intro h;have ha:=h a (List.mem_cons_self ..)
  obtain ⟨i1,i2⟩:=ih (zhQ hB ha).ok fun c hc=>zlW hB ha (h c (List.mem_cons_of_mem _ hc))
  exact ⟨i1,fun c hc=>i2 c (zlW hB ha hc)⟩
theorem zza (B:Ben) (f:Nat→Bool):∀ k,(∀ j:Nat,j < k→B.nP j=if f j then 1 else 0)→zvc B k=((List.range k).countP f:Nat)
 | 0,_=>rfl
 | k+1,h=>by
  have ih:=zza B f k fun j hj=>h j (by omega)
  have hk:=h k (by omega)
  unfold Ben.nP at hk;rw [List.range_succ,List.countP_append,List.countP_singleton];show zvc B k+_=_;rw [ih,hk];split<;>simp
theorem zwT (h:∀ j:Nat,j < B.ds.length→B.nP j=0):B.pending=0:=by
 unfold Ben.pending
 rw [zza B (fun _=>false) _ (by simpa using h)]
 simp
end
end Wf

namespace Wf
open Go Go.RowKit Go.Proofs
set_option linter.unusedSimpArgs false
set_option linter.unusedVariables false
set_option maxHeartbeats 4000000
end Wf

namespace Wf
open Go Go.RowKit Go.Proofs
set_option linter.unusedSimpArgs false
set_option linter.unusedVariables false
set_option maxHeartbeats 4000000
theorem zz4 {l:List Int} (h:l=[]∨Sec l):Sec (zj6 32 l):=by
 rcases h with rfl | h
 ·rw [zwi]; exact zkQ
 ·rw [zrv h.len]; exact h
theorem zqC {ls:List (List Int)} {j:Nat} {x:List Int} (h:∀ y∈ls,Sec y) (hx:Sec x):∀ y∈ls.set j x,Sec y:=fun y hy=>by
 rcases List.mem_or_eq_of_mem_set hy with hy | hy
 ·exact h y hy
 ·rw [hy]; exact hx
theorem zz5 {p q:List Int} {ls o:List (List Int)} (hp:p=[]∨Sec p) (hq:q=[]∨Sec q) (hl:∀ l∈ls,l=[]∨Sec l) (h:zkT p q ls=some o):∀ x∈o,Sec x:=by
 have hf:∀ x∈zcx ls,Sec x:=fun x hx=>by
  obtain ⟨y,hy,rfl⟩:=List.mem_map.1 hx;exact zz4 (hl y hy)
 have hP:=zuz hf;have hQ:=zuA hf;unfold zkT at h;split at h
 ·cases h
 split at h
 ·cases h
 rename_i hc;rw [zuB] at hc;split at h
 ·rename_i j k hm;rw [hm] at hc
  have hp1:Sec p:=hp.resolve_left fun e=>by rw [if_pos e] at hc; simp at hc
  have hq1:Sec q:=hq.resolve_left fun e=>by rw [if_pos e] at hc; simp at hc
  cases h;have hX:Sec (twoX p q (zcx ls) j k):=zn8 _ (zh1 (zh1 hq1 hQ) (zn8 _ (zh1 hp1 hP)));exact zqC (zqC hf hX) (zh1 (zh1 hp1 hP) hX)
 ·rename_i j hm;rw [hm] at hc;split at h
  ·rename_i h0
   have hp1:Sec p:=hp.resolve_left fun e=>by rw [e] at h0; simp at h0
   cases h;exact zqC hf (zh1 hp1 hP)
  ·rename_i h0
   have hp0:p=[]:=by cases p; rfl; simp at h0
   have hq1:Sec q:=hq.resolve_left fun e=>by rw [if_pos e,if_pos hp0] at hc; simp at hc
   cases h;exact zqC hf (zn8 _ (zh1 hq1 hQ))
 ·cases h; exact hf
section
variable {B:Ben}
theorem zCi (hB:B.Ok) {d a:Int} (a0:0≤a) (a1:a < 52):Sec (B.cur d a):=zGA (zh2 hB d).1 a0 a1
theorem zwU (hB:B.Ok) {live:List Bool} {g:Geo} {r:Int} (h:(B.sRead live g r).2=0):Row g (B.sRead live g r).1∧zcN g r=true:=by
 unfold Ben.sRead at h ⊢;split at h
 ·exact absurd h (by decide)
 rename_i hr
 have hr:zcN g r=true:=by simpa using hr
 rw [if_neg (by simp [hr])]
 split at h
 ·exact absurd h (by decide)
 rename_i hd;rw [if_neg hd]
 cases ht:zsn g r (B.secs live r g.d.toNat) with
 | none=>rw [ht] at h; exact absurd h (by decide)
 | some o=>
  refine ⟨⟨?_,?_⟩,hr⟩
  ·have:=zDE ht;have:=zdn (zbV.1 hr).1;show (o.length:Int)=_;omega
  ·obtain ⟨hk,r0,r1⟩:=zbV.1 hr
   have hs:∀ j:Nat,(B.secs live r g.d.toNat).getD j []=[]∨Sec ((B.secs live r g.d.toNat).getD j []):=by
    intro j;unfold Ben.secs;rw [List.getD_eq_getElem?_getD,List.getElem?_map]
    cases (List.range g.d.toNat)[j]? with
    | none=>exact .inl rfl
    | some d=>
     show (if B.up live d=true then _ else _)=[]∨Sec (if B.up live d=true then _ else _)
     split
     ·exact .inr (zCi hB (by omega) (by omega))
     ·exact .inl rfl
   unfold zsn at ht;split at ht
   rotate_left
   ·cases ht
   refine zz5 (hs _) ?_ (fun l hl=>?_) ht
   ·unfold qOf;split
    ·exact .inl rfl
    ·exact hs _
   ·obtain ⟨j,_,rfl⟩:=List.mem_map.1 hl;exact hs _
end
def mayR (a to:Geo) (split:Int):Bool:=a.ok && decide (0≤split) && decide (split≤16) && (decide (split=0) || to.ok)
theorem rebuild_may (a to:Geo) (split:Int):zb4 [.agg [.int .i64 a.l,.int .i64 a.d,.int .i64 a.c],.agg [.int .i64 to.l,.int .i64 to.d,.int .i64 to.c],.int .i64 split]=some (.bool (mayR a to split)):=by
 rw [zp9];unfold zjs mayR
 have h1:zak [.agg [.int .i64 a.l,.int .i64 a.d,.int .i64 a.c]]=some (.int .i64 (if a.ok then 0 else 1)):=zfW a.l a.d a.c
 have h2:zak [.agg [.int .i64 to.l,.int .i64 to.d,.int .i64 to.c]]=some (.int .i64 (if to.ok then 0 else 1)):=zfW to.l to.d to.c
 cases hk:a.ok<;>rw [hk] at h1
 ·simp [h1]
 ·cases hk2:to.ok<;>rw [hk2] at h2<;>by_cases c1:0≤split<;>by_cases c2:split≤16<;>by_cases c3:split=0<;>simp [zcp,h1,h2,c1,c2,c3]<;>omega
def gAt (a to:Geo) (split:Int) (r:Nat):Geo:=if (r:Int) < split then to else a
def Ben.rOne (B:Ben) (live:List Bool) (d:Int) (g:Geo) (r:Int):Int×Ben:=
 if (B.sRead live g r).2≠0 then ((B.sRead live g r).2,B) else B.write d (36+r) (atR g r (B.sRead live g r).1 d)
def Ben.rStep (live:List Bool) (d:Int) (a to:Geo) (split:Int) (r:Nat) (B:Ben):Int×Ben:=
 if (gAt a to split r).d≤d then (0,B) else B.rOne live d (gAt a to split r) r
def Ben.rRows (B:Ben) (live:List Bool) (d:Int) (a to:Geo) (split:Int):Int×Ben:=
 if (runE (Ben.rStep live d a to split) 0 16 B).1=0 then (runE (Ben.rStep live d a to split) 0 16 B).2.flush d else runE (Ben.rStep live d a to split) 0 16 B
def Ben.rDisk (B:Ben) (live:List Bool) (d:Int) (a to:Geo) (split:Int):Int×Ben:=
 if d < 0∨B.n≤d∨(live[d.toNat]?).getD false=true∨mayR a to split=false then (1,B)
 else if B.failed d=true then (5,B) else B.rRows live d a to split
section
variable {T0 T1:Tb} {b:Nat} {idx:List Nat} {B:Ben}
theorem zCj (hB:B.Ok) {live:List Bool} {d:Int} {g:Geo} {r:Int} (d0:0≤d) (d1:d < g.d):Nx 1 B (B.rOne live d g r).2∧Like B (B.rOne live d g r).2:=by
 unfold Ben.rOne;split
 ·exact ⟨.rfl' hB (by omega),.refl B⟩
 ·rename_i h;obtain ⟨hR,hr⟩:=zwU hB (Classical.not_not.1 h);exact ⟨zuH hB (.inl (zwn hr hR d0 d1)),zpE ..⟩
theorem rebuild_one (h:At T0 T1 b idx B) (hw:B.w≤1000000) (tg:Tag) (live:List Bool) {d:Int} {g:Geo} {r:Int} (d0:0≤d) (d1:d < g.d):
  zbK [.h kB b 0,.sl tg (live.map D.bool),.int .i64 d,.agg [.int .i64 g.l,.int .i64 g.d,.int .i64 g.c],.int .i64 r] [P0 T0 b idx B,P1 T1 idx B]=
   some (Ans.mk (.int .i64 (B.rOne live d g r).1) [] [P0 T0 b idx (B.rOne live d g r).2,P1 T1 idx (B.rOne live d g r).2]):=by
 rw [zqq,ze2];unfold zjB Ben.rOne;have hrd:=zsb h hw .lent live g r
 by_cases he:(B.sRead live g r).2=0
 ·obtain ⟨hR,hr⟩:=zwU h.ok he;obtain ⟨hk,r0,r1⟩:=zbV.1 hr;have hw2:=zdn hk;have hdd:=ok_d hk;rw [he] at hrd
  rw [if_neg (by simp [he])]
  generalize (B.sRead live g r).1=data at*;have hlen:=hR.len
  have hfill:=zy5 g r .lent (ps:=fP data) (by simp; omega)
  rw [ztE,zrG hr hR] at hfill
  have hg:(pL (fP (zcW g r data)))[d.toNat]? =some (.sl .fresh (uL (atR g r data d))):=zcP (zwI (by
   have:=ziF (g:=g) (r:=r) (data:=data) (d:=d.toNat) (by omega)
   rw [show ((d.toNat:Nat):Int)=d by omega] at this; exact this))
  have hwr:=zBS h hw d (36+r) .fresh (atR g r data d);have hrl:=zl0 g r data
  simp (disch:=first | omega | assumption | (simp; done) | fail) [-List.all_eq_true,hrd,znB,hfill,solD,zal,zag hg,hwr,hrl,d0]
 ·simp [-List.all_eq_true,hrd,he]
theorem zlG (h:At T0 T1 b idx B) (hw:B.w≤999000) (tg:Tag) (live:List Bool) (d:Int) (a to:Geo) (split:Int):
  zaO [.h kB b 0,.sl tg (live.map D.bool),.int .i64 d,.agg [.int .i64 a.l,.int .i64 a.d,.int .i64 a.c],.agg [.int .i64 to.l,.int .i64 to.d,.int .i64 to.c],.int .i64 split] [P0 T0 b idx B,P1 T1 idx B]=
   some (Ans.mk (.int .i64 (B.rDisk live d a to split).1) [] [P0 T0 b idx (B.rDisk live d a to split).2,P1 T1 idx (B.rDisk live d a to split).2]):=by
 rw [zps,ze2];unfold zib Ben.rDisk;have hl:=zzW h;have hm:=rebuild_may a to split;have hf:=zyU h d
 by_cases c0:d < 0
 ·simp [c0]
 by_cases c1:B.n≤d
 ·simp [c0,c1,hl]
 have loop:mayR a to split=true→B.failed d=false→∀ (X:Option Ans),X=zb7 (α:=(Nat×List D×Int×Int×(Int×Int×Int×PUnit)×(Int×Int×Int×PUnit)×Int×PUnit)×List (List D)×List (List D)×PUnit) (fun again9 ((x10,(l11,(i12,(i13,((i14,(i15,(i16,_))),((i17,(i18,(i19,_))),(i20,_))))))),(U21,(U22,_)))=>
        brK (decide (i20 < (16:Int)))
         (brK (decide (i20 < i13))
          (brK (decide (i12≥i18))
           (letN (IntKind.wrap IntKind.i64 (i20+(1:Int))) fun n23=>
           again9 (((x10,l11,i12,i13,(i14,i15,i16,PUnit.unit),(i17,i18,i19,PUnit.unit),n23,PUnit.unit),U21,U22,PUnit.unit)))
           (zaq (zbK [D.h (3840) x10 (0:Nat),D.sl Tag.lent l11,D.int IntKind.i64 i12,D.agg [D.int IntKind.i64 i17,D.int IntKind.i64 i18,D.int IntKind.i64 i19],D.int IntKind.i64 i20] [U21,U22]) fun r24=>
           nilK r24.outs <|
           zb8 r24.tbs fun c25 q26=>
           zb8 q26 fun c27 q28=>
           nilK q28 <|
           asI IntKind.i64 r24.r fun i29=>
           brK (i29 != (0:Int))
            (some (Ans.mk (D.int IntKind.i64 i29) [] [c25,c27]))
            (letN (IntKind.wrap IntKind.i64 (i20+(1:Int))) fun n30=>
            again9 (((x10,l11,i12,i13,(i14,i15,i16,PUnit.unit),(i17,i18,i19,PUnit.unit),n30,PUnit.unit),c25,c27,PUnit.unit)))))
          (brK (decide (i12≥i15))
           (letN (IntKind.wrap IntKind.i64 (i20+(1:Int))) fun n31=>
           again9 (((x10,l11,i12,i13,(i14,i15,i16,PUnit.unit),(i17,i18,i19,PUnit.unit),n31,PUnit.unit),U21,U22,PUnit.unit)))
           (zaq (zbK [D.h (3840) x10 (0:Nat),D.sl Tag.lent l11,D.int IntKind.i64 i12,D.agg [D.int IntKind.i64 i14,D.int IntKind.i64 i15,D.int IntKind.i64 i16],D.int IntKind.i64 i20] [U21,U22]) fun r32=>
           nilK r32.outs <|
           zb8 r32.tbs fun c33 q34=>
           zb8 q34 fun c35 q36=>
           nilK q36 <|
           asI IntKind.i64 r32.r fun i37=>
           brK (i37 != (0:Int))
            (some (Ans.mk (D.int IntKind.i64 i37) [] [c33,c35]))
            (letN (IntKind.wrap IntKind.i64 (i20+(1:Int))) fun n38=>
            again9 (((x10,l11,i12,i13,(i14,i15,i16,PUnit.unit),(i17,i18,i19,PUnit.unit),n38,PUnit.unit),c33,c35,PUnit.unit))))))
         (zaq (zaC [D.h (3840) x10 (0:Nat),D.int IntKind.i64 i12] [U21,U22]) fun r39=>
         nilK r39.outs <|
         zb8 r39.tbs fun c40 q41=>
         nilK q41 <|
         asI IntKind.i64 r39.r fun i42=>
         some (Ans.mk (D.int IntKind.i64 i42) [] [U21,c40])))
        (((b,live.map D.bool,d,split,(a.l,a.d,a.c,PUnit.unit),(to.l,to.d,to.c,PUnit.unit),(0:Int),PUnit.unit),P0 T0 b idx B,P1 T1 idx B,PUnit.unit))→X=some (Ans.mk (.int .i64 (B.rRows live d a to split).1) [] [P0 T0 b idx (B.rRows live d a to split).2,P1 T1 idx (B.rRows live d a to split).2]):=by
  intro hmay hfd X hX;rw [hX];clear hX
  let st:Nat→Ben→(Nat×List D×Int×Int×(Int×Int×Int×PUnit)×(Int×Int×Int×PUnit)×Int×PUnit)×List (List D)×List (List D)×PUnit:=fun k B'=>
   ((b,live.map D.bool,d,split,(a.l,a.d,a.c,PUnit.unit),(to.l,to.d,to.c,PUnit.unit),(k:Int),PUnit.unit),P0 T0 b idx B',P1 T1 idx B',PUnit.unit)
  have hst:st 0 B=((b,live.map D.bool,d,split,(a.l,a.d,a.c,PUnit.unit),(to.l,to.d,to.c,PUnit.unit),0,PUnit.unit),P0 T0 b idx B,P1 T1 idx B,PUnit.unit):=rfl;rw [←hst]
  have hrr:B.rRows live d a to split=(fun y:Int×Ben=>if y.1=0 then y.2.flush d else y) (runE (Ben.rStep live d a to split) 0 16 B):=rfl
  rw [hrr]
  refine zrB (Ben.rStep live d a to split) (fun k B'=>Nx k B B') st (fun y=>some (Ans.mk (.int .i64 (if y.1=0 then y.2.flush d else y).1) [] [P0 T0 b idx (if y.1=0 then y.2.flush d else y).2,P1 T1 idx (if y.1=0 then y.2.flush d else y).2])) 16 (by omega) (.rfl' h.ok (by omega)) ?_ ?_ ?_
  ·rintro k B' hk' hx _
   unfold Ben.rStep;split
   ·exact hx.mono (by omega)
   ·exact (hx.trans (zCj hx.ok (by omega) (by omega)).1).mono (by omega)
  ·rintro again k B' hk' hx
   dsimp only [st];have hA:=h.nx hx;have hxw:=hx.w
   have hw':B'.w≤1000000:=by omega
   have hk16:(k:Int) < 16:=by omega
   unfold Ben.rStep gAt
   by_cases hs:(k:Int) < split
   ·rw [if_pos hs]
    by_cases hd:to.d≤d
    ·rw [if_pos hd]
     simp (disch:=first | omega | assumption | (simp; done) | fail) [hk16,hs,hd,zal]
    ·rw [if_neg hd]
     have hone:=rebuild_one hA hw' .lent live (d:=d) (g:=to) (r:=(k:Int)) (by omega) (by omega)
     by_cases he:(B'.rOne live d to k).1=0
     ·simp (disch:=first | omega | assumption | (simp; done) | fail) [hk16,hs,hd,zal,hone,he]
     ·simp (disch:=first | omega | assumption | (simp; done) | fail) [hk16,hs,hd,zal,hone,he]
   ·rw [if_neg hs]
    by_cases hd:a.d≤d
    ·rw [if_pos hd]
     simp (disch:=first | omega | assumption | (simp; done) | fail) [hk16,hs,hd,zal]
    ·rw [if_neg hd]
     have hone:=rebuild_one hA hw' .lent live (d:=d) (g:=a) (r:=(k:Int)) (by omega) (by omega)
     by_cases he:(B'.rOne live d a k).1=0
     ·simp (disch:=first | omega | assumption | (simp; done) | fail) [hk16,hs,hd,zal,hone,he]
     ·simp (disch:=first | omega | assumption | (simp; done) | fail) [hk16,hs,hd,zal,hone,he]
  ·rintro again B' hx
   dsimp only [st];have hA:=h.nx hx;have hxw:=hx.w
   have hfl:=zBT hA (by omega) d
   have hp:P0 T0 b idx (B'.flush d).2=P0 T0 b idx B':=by unfold Ben.flush; split<;>rfl
   simp [hfl,hp]
 by_cases c2:d < (live.length:Int)
 ·have hgl:(live.map D.bool)[d.toNat]? =some (.bool ((live[d.toNat]?).getD false)):=by
   rw [List.getElem?_map,List.getElem?_eq_getElem (by omega)]; rfl
  generalize (live[d.toNat]?).getD false=lv at*
  cases lv with
  | true=>simp [c0,c1,c2,hl,zag hgl,show 0≤d by omega]
  | false=>
   cases c4:mayR a to split
   ·rw [c4] at hm
    simp [c0,c1,c2,hl,zag hgl,show 0≤d by omega,hm]
   ·rw [c4] at hm;cases c5:B.failed d
    ·rw [c5] at hf
     rw [if_neg (by simp; omega),if_neg (by simp)]
     refine Eq.trans ?_ (loop c4 c5 _ rfl)
     simp [c0,c1,c2,hl,zag hgl,show 0≤d by omega,hm,hf]
    ·rw [c5] at hf
     simp [c0,c1,c2,hl,zag hgl,show 0≤d by omega,hm,hf]
 ·have c3':(live[d.toNat]?).getD false=false:=by rw [List.getElem?_eq_none (by omega)]; rfl
  rw [c3'];cases c4:mayR a to split
  ·rw [c4] at hm;simp [c0,c1,c2,hl,hm]
  ·rw [c4] at hm;cases c5:B.failed d
   ·rw [c5] at hf
    rw [if_neg (by simp; omega),if_neg (by simp)]
    refine Eq.trans ?_ (loop c4 c5 _ rfl);simp [c0,c1,c2,hl,hm,hf]
   ·rw [c5] at hf;simp [c0,c1,c2,hl,hm,hf]
end
end Wf

namespace Wf
open Go Go.RowKit
set_option linter.unusedSimpArgs false
set_option linter.unusedVariables false
theorem zFF {c r w m row j:Int} (hc:c=1∨c=2∨c=4) (hr:r=1∨r=2∨r=4) (hcr:c≤r) (hw:2≤w∧w≤7) (j0:0≤j) (j1:j < w) (h0:0≤row) (h:row < m*r):(row / c*w+j)*c+row % c < m*(r*w):=by
 have hw:w=2∨w=3∨w=4∨w=5∨w=6∨w=7:=by omega
 rcases hc with rfl | rfl | rfl<;>rcases hr with rfl | rfl | rfl<;>first | (exfalso; omega) | (rcases hw with rfl | rfl | rfl | rfl | rfl | rfl<;>omega)
theorem zDN {c r w m row j:Int} (hc:c=1∨c=2∨c=4) (hr:r=1∨r=2∨r=4) (hcr:c≤r) (hw:2≤w∧w≤7) (j0:0≤j) (j1:j < w) (h0:0≤row) (h:m*r≤row):m*(r*w)≤(row / c*w+j)*c+row % c:=by
 have hw:w=2∨w=3∨w=4∨w=5∨w=6∨w=7:=by omega
 rcases hc with rfl | rfl | rfl<;>rcases hr with rfl | rfl | rfl<;>first | (exfalso; omega) | (rcases hw with rfl | rfl | rfl | rfl | rfl | rfl<;>omega)
theorem zFG {x y:Geo} {k:Int} (h0:0≤k) (h1:k < winP x y):zo3 x y k=(k*(zc7 x y*y.width),(k+1)*(zc7 x y*y.width)):=by
 unfold zo3; rw [if_neg (by omega)]
theorem zFH {x y:Geo} {k:Int} (h0:0≤k) (h1:k < winP x y):x.can y=true:=by
 cases h:x.can y
 ·have:=(zFh h).2; omega
 ·rfl
structure Win (x y:Geo) (k:Int):Prop where
 can:x.can y=true
 xok:x.ok=true
 yok:y.ok=true
 r:zc7 x y=1∨zc7 x y=2∨zc7 x y=4
 xc:x.c≤zc7 x y
 yc:y.c≤zc7 x y
 r0:0≤k*zc7 x y
 r1:(k+1)*zc7 x y≤16
 rr:(k+1)*zc7 x y=k*zc7 x y+zc7 x y
 s1:(zo3 x y k).1=k*(zc7 x y*y.width)
 s2:(zo3 x y k).2=(k+1)*(zc7 x y*y.width)
 ss:(zo3 x y k).2=(zo3 x y k).1+zc7 x y*y.width
 s0:0≤(zo3 x y k).1
 se:(zo3 x y k).2≤y.cap
 m:2≤zc7 x y*y.width∧zc7 x y*y.width≤28
theorem zG3 {x y:Geo} {k:Int} (h0:0≤k) (h1:k < winP x y):Win x y k:=by
 have hc:=zFH h0 h1;obtain ⟨k1,k2,k3,k4,k5,k6⟩:=zrE.1 hc;obtain ⟨e1,e2⟩:=zBG hc;obtain ⟨e3,e4,e5⟩:=zGG hc;have hw:=zdn k2;have hs:=zFG h0 h1;have hx:=(zeE.1 k1).2.2;have hy:=(zeE.1 k2).2.2
 have rr:(k+1)*zc7 x y=k*zc7 x y+zc7 x y:=by rw [Int.add_mul,Int.one_mul]
 have ss:(k+1)*(zc7 x y*y.width)=k*(zc7 x y*y.width)+zc7 x y*y.width:=by rw [Int.add_mul,Int.one_mul]
 have hm:2≤zc7 x y*y.width∧zc7 x y*y.width≤28:=by rcases e2 with e | e | e<;>rw [e]<;>omega
 have hr0:0≤k*zc7 x y:=Int.mul_nonneg h0 (by omega)
 have hr1:(k+1)*zc7 x y≤16:=by
  rw [←e5]
  exact Int.mul_le_mul_of_nonneg_right (by omega) (by omega)
 refine ⟨hc,k1,k2,e2,by omega,by omega,hr0,hr1,rr,by rw [hs],by rw [hs],by rw [hs]; exact ss,by rw [hs]; exact Int.mul_nonneg h0 (by omega),?_,hm⟩
 rw [hs];show (k+1)*(zc7 x y*y.width)≤y.width*16;rw [←Int.mul_assoc,Int.mul_comm y.width 16]
 exact Int.mul_le_mul_of_nonneg_right hr1 (by omega)
theorem zDO {x y:Geo} {k r j:Int} (h:Win x y k) (r0:k*zc7 x y≤r) (r1:r < (k+1)*zc7 x y) (j0:0≤j) (j1:j < y.width):(zo3 x y k).1≤numP y r j∧numP y r j < (zo3 x y k).2:=by
 have hw:=zdn h.yok;have hy:=(zeE.1 h.yok).2.2;have:=h.r0;rw [h.s1,h.s2];unfold numP
 exact ⟨zDN hy h.r h.yc hw j0 j1 (by omega) r0,zFF hy h.r h.yc hw j0 j1 (by omega) r1⟩
end Wf

namespace Wf
open Go Go.RowKit Go.Proofs
set_option linter.unusedSimpArgs false
set_option linter.unusedVariables false
set_option maxHeartbeats 4000000
section
variable (a to:Geo) (k:Int)
end
def Act.sec:Act→Prop
 | .w _ _ x=>Sec x
 | .f _=>True
theorem zCk:∀ (l:List Act) {B:Ben},B.Ok→(∀ a∈l,a.sec)→Nx (nW l) B (runA l B).2∧Like B (runA l B).2
 | [],B,hB,_=>⟨.rfl' hB (by simp [nW]),.refl B⟩
 | a::l,B,hB,h=>by
  have ha:=h a (List.mem_cons_self ..)
  have h1:Nx (if a.isW=true then 1 else 0) B (B.act a).2∧Like B (B.act a).2:=by
   cases a with
   | w d a x=>exact ⟨zuH hB (.inl ha),zpE ..⟩
   | f d=>exact ⟨zyK hB,ztJ hB d⟩
  rw [zoc,zuJ]
  by_cases h0:(B.act a).1=0
  ·rw [if_pos h0]
   obtain ⟨h2,h3⟩:=zCk l h1.1.ok fun c hc=>h c (List.mem_cons_of_mem _ hc)
   exact ⟨(h1.1.trans h2).mono (by split<;>simp),h1.2.trans h3⟩
  ·rw [if_neg h0]
   exact ⟨h1.1.mono (by split<;>simp<;>omega),h1.2⟩
def rowW (a to:Geo) (k:Int) (data:List (List Int)) (r:Int):List (List Int):=(List.range to.width.toNat).map fun (j:Nat)=>data.getD (numP to r j - (zo3 a to k).1).toNat []
section
variable {T0 T1:Tb} {b:Nat} {idx:List Nat} {B:Ben}
end
end Wf

namespace Wf
open Go Go.RowKit Go.Proofs
set_option linter.unusedSimpArgs false
set_option linter.unusedVariables false
set_option maxHeartbeats 4000000
theorem ztL {σ:Type} {f g:Nat→σ→Int×σ} (I:Nat→σ→Prop):∀ (n k:Nat) (s:σ),I k s→(∀ j s,k≤j→j < k+n→I j s→f j s=g j s)→(∀ j s,k≤j→j < k+n→I j s→(f j s).1=0→I (j+1) (f j s).2)→runE f k n s=runE g k n s
 | 0,k,s,_,_,_=>rfl
 | n+1,k,s,hI,h1,h2=>by
  unfold runE
  have e:=h1 k s (by omega) (by omega) hI
  have h3:=h2 k s (by omega) (by omega) hI
  rw [←e]
  by_cases h0:(f k s).1=0
  ·rw [if_pos h0,if_pos h0]
   exact ztL I n (k+1) _ (h3 h0) (fun j s a b=>h1 j s (by omega) (by omega)) fun j s a b=>h2 j s (by omega) (by omega)
  ·rw [if_neg h0,if_neg h0]
section
variable {B B':Ben} {live:List Bool}
def Act.d:Act→Int
 | .w d _ _=>d
 | .f d=>d
theorem zCl {e:Int} (e0:0≤e):∀ (l:List Act) {B:Ben},B.Ok→(∀ a∈l,a.Ok B)→(∀ a∈l,a.d≠e)→(does B l).nP e=B.nP e
 | [],B,_,_,_=>rfl
 | a::l,B,hB,h1,h2=>by
  have ha:=h1 a (List.mem_cons_self ..);show (does (B.does1 a) l).nP e=_
  rw [zCl e0 l (zhQ hB ha).ok (fun c hc=>zlW hB ha (h1 c (List.mem_cons_of_mem _ hc))) fun c hc=>h2 c (List.mem_cons_of_mem _ hc),zy9 ha e0]
  have:=h2 a (List.mem_cons_self ..)
  cases a with
  | w d a x=>exact if_neg (fun q=>this q.symm)
  | f d=>exact if_neg (fun q=>this q.symm)
end
section
variable {a to:Geo} {k:Int} {data:List (List Int)}
structure WinD (a to:Geo) (k:Int) (data:List (List Int)):Prop where
 k0:0≤k
 k1:k < winP a to
 len:(data.length:Int)=(zo3 a to k).2 - (zo3 a to k).1
 sec:∀ x∈data,Sec x
theorem WinD.win (h:WinD a to k data):Win a to k:=zG3 h.k0 h.k1
theorem WinD.row (h:WinD a to k data) {r:Int} (r0:k*zc7 a to≤r) (r1:r < (k+1)*zc7 a to):Row to (rowW a to k data r)∧zcN to r=true:=by
 have hW:=h.win;have:=hW.r0;have:=hW.r1;have hyw:=zdn hW.yok;have hl:=h.len
 refine ⟨⟨by simp [rowW]; omega,fun x hx=>?_⟩,zbV.2 ⟨hW.yok,by omega,by omega⟩⟩
 obtain ⟨j,hj,rfl⟩:=List.mem_map.1 hx;have hj:=List.mem_range.1 hj
 obtain ⟨n0,n1⟩:=zDO hW r0 r1 (j:=(j:Int)) (by omega) (by omega)
 exact h.sec _ (zdB (by omega))
variable {B:Ben} {live:List Bool}
end
section
variable {U V:Tb} {b:Nat} {idx:List Nat} {B:Ben} {n:Nat} {K:Int}
theorem zFI (T0 T1:Tb) {n:Nat} (h0:1≤n) (h8:n≤8):∃ U V idx,
  zby [.int .i64 n] [T0,T1]=some (Ans.mk (.tup [.h kB T0.length 0,.int .i64 0]) [] [P0 U T0.length idx (Ben.new n),P1 V idx (Ben.new n)])∧
  Run U V T0.length idx (Ben.new n) n 0∧Still (Ben.new n):=
 ⟨_,_,_,zGV T0 T1 h0 h8,⟨zCa T0 T1 h8,by simp [Ben.new,Ben.n],rfl,rfl,Int.le_refl _⟩,zwR h8⟩
end
end Wf

namespace Wf
open Go Go.RowKit Go.Proofs
set_option linter.unusedSimpArgs false
set_option linter.unusedVariables false
set_option maxHeartbeats 4000000
end Wf

namespace Wf
open Go Go.RowKit Go.Proofs
set_option linter.unusedSimpArgs false
set_option linter.unusedVariables false
set_option maxHeartbeats 4000000
section
variable {B:Ben}
theorem zz6 {d a:Int} {x:List Int} (h:(B.write d a x).1=0):(B.write d a x).2.down=B.down∧∀ e b:Int,0≤e→e≠d→(B.write d a x).2.cur e b=B.cur e b:=by
 unfold Ben.write at h ⊢;split at h
 ·rename_i h0; exact absurd h h0
 rename_i h0;rw [if_neg h0];split at h
 ·rename_i h1; exact absurd h h1
 rename_i h1;rw [if_neg h1];split at h
 ·exact absurd (show (6:Int)=0 from h) (by decide)
 rename_i h2;rw [if_neg h2];have hd:=may0.1 (Classical.not_not.1 h0)
 refine ⟨rfl,fun e b e0 he=>?_⟩
 unfold Ben.cur
 rw [zeq (by simpa using hd.1) e0,if_neg he]
 rfl
def rAct (dat:Nat→List (List Int)) (d:Int) (a to:Geo) (split:Int) (r:Nat):List Act:=if (gAt a to split r).d≤d then [] else [.w d (36+r) (atR (gAt a to split r) r (dat r) d)]
def zjS (dat:Nat→List (List Int)) (d:Int) (a to:Geo) (split:Int) (m:Nat):List Act:=(List.range m).flatMap (rAct dat d a to split)
def zx0 (B:Ben) (live:List Bool) (d:Int) (a to:Geo) (split:Int) (dat:Nat→List (List Int)):Prop:=
 ∀ r:Nat,r < 16→d < (gAt a to split r).d→Row (gAt a to split r) (dat r)∧(B.lostN live (gAt a to split r):Int)≤(gAt a to split r).l - 4∧
  ∀ e:Int,0≤e→e < (gAt a to split r).d→B.up live e=true→B.cur e (36+r)=atR (gAt a to split r) r (dat r) e
theorem zzb {a to:Geo} {split:Int}:mayR a to split=true↔a.ok=true∧0≤split∧split≤16∧(split=0∨to.ok=true):=by unfold mayR; simp [and_assoc]
theorem ztM {a to:Geo} {split:Int} (h:mayR a to split=true) (r:Nat):(gAt a to split r).ok=true:=by
 obtain ⟨h1,h2,h3,h4⟩:=zzb.1 h;unfold gAt;split
 ·exact h4.resolve_left (by omega)
 ·exact h1
theorem zvi {a to:Geo} {split:Int} (h:mayR a to split=true) {r:Nat} (hr:r < 16):zcN (gAt a to split r) r=true:=zbV.2 ⟨ztM h r,by omega,by omega⟩
theorem Like.lostN {B':Ben} (h:Like B B') (live:List Bool) (g:Geo):B'.lostN live g=B.lostN live g:=by unfold Ben.lostN; simp only [h.up]
theorem zEh {live:List Bool} {d:Int} (h:(live[d.toNat]?).getD false=false):B.up live d=false:=by unfold Ben.up; rw [h]; simp
theorem ztN (hB:B.Ok) (hdn:B.down=false) {live:List Bool} {d:Int} {a to:Geo} {split:Int} {dat:Nat→List (List Int)} (d0:0≤d) (d1:d < B.n) (hl:(live[d.toNat]?).getD false=false) (hm:mayR a to split=true)
  (hf:B.failed d=false) (hS:zx0 B live d a to split dat):B.rDisk live d a to split=runA (zjS dat d a to split 16++[.f d]) B:=by
 unfold Ben.rDisk
 rw [if_neg (by rw [hl,hm]; simp; omega),hf,if_neg (by simp)]
 unfold Ben.rRows
 have hrows:runE (Ben.rStep live d a to split) 0 16 B=runA (zjS dat d a to split 16) B:=by
  unfold zjS
  rw [ztL (g:=fun r B'=>runA (rAct dat d a to split r) B') (fun _ B'=>B'.Ok∧Like B B'∧B'.down=false∧∀ e b:Int,0≤e→e≠d→B'.cur e b=B.cur e b) _ _ _ ⟨hB,.refl B,hdn,fun _ _ _ _=>rfl⟩ ?_ ?_,zoJ,List.range_eq_range']
  ·rintro r B' _ hr ⟨hB',hL,hdn',hc⟩
   unfold Ben.rStep rAct;split
   ·rfl
   ·rename_i hd
    obtain ⟨hR,hlo,hrow⟩:=hS r (by omega) (by omega)
    have hrd:=zDc (B:=B') (live:=live) (zvi hm (r:=r) (by omega)) hR hdn' fun e e0 e1 hu=>by
     rw [hL.up] at hu
     rw [hc e _ e0 (by rintro rfl; rw [zEh hl] at hu; cases hu),hrow e e0 e1 hu]
    rw [hL.lostN,if_pos hlo] at hrd;unfold Ben.rOne
    rw [hrd,if_neg (by simp),zl4]
    rfl
  ·rintro r B' _ hr ⟨hB',hL,hdn',hc⟩ he
   unfold Ben.rStep at he ⊢;split
   ·exact ⟨hB',hL,hdn',hc⟩
   ·rename_i hd;rw [if_neg hd] at he
    obtain ⟨hx,hL2⟩:=zCj hB' (live:=live) (d:=d) (g:=gAt a to split r) (r:=r) d0 (by omega)
    unfold Ben.rOne at he hx hL2 ⊢;split at he
    ·rename_i h0; exact absurd he h0
    ·rename_i h0;rw [if_neg h0] at hx hL2 ⊢;obtain ⟨h1,h2⟩:=zz6 he
     exact ⟨hx.ok,hL.trans hL2,h1.trans hdn',fun e b e0 hne=>(h2 e b e0 hne).trans (hc e b e0 hne)⟩
 rw [hrows,zm4]
 by_cases h0:(runA (zjS dat d a to split 16) B).1=0
 ·rw [if_pos h0,if_pos h0,zl4]; rfl
 ·rw [if_neg h0,if_neg h0]
theorem zse {dat:Nat→List (List Int)} {d:Int} {a to:Geo} {split:Int} {m:Nat} {x:Act} (h:x∈zjS dat d a to split m):∃ r:Nat,r < m∧d < (gAt a to split r).d∧x=.w d (36+r) (atR (gAt a to split r) r (dat r) d):=by
 obtain ⟨r,hr,hx⟩:=List.mem_flatMap.1 h;have hr:=List.mem_range.1 hr;unfold rAct at hx;split at hx
 ·cases hx
 ·exact ⟨r,hr,by omega,List.mem_singleton.1 hx⟩
theorem zzc {live:List Bool} {d:Int} {a to:Geo} {split:Int} {dat:Nat→List (List Int)} (d0:0≤d) (d1:d < B.n) (hm:mayR a to split=true) (hf:B.failed d=false) (hS:zx0 B live d a to split dat):∀ x∈zjS dat d a to split 16++[.f d],x.Ok B:=by
 have his:B.is d=true:=zc4.2 ⟨d0,d1⟩;intro x hx;rcases List.mem_append.1 hx with hx | hx
 ·obtain ⟨r,hr,hd,rfl⟩:=zse hx
  exact ⟨his,hf,by omega,by omega,zwn (zvi hm hr) (hS r hr hd).1 d0 hd⟩
 ·rw [List.mem_singleton.1 hx]; exact ⟨his,hf⟩
theorem zzd {dat:Nat→List (List Int)} {d:Int} {a to:Geo} {split:Int}:nW (zjS dat d a to split 16++[.f d])≤16:=by
 have:∀ m,nW (zjS dat d a to split m)≤m:=by
  intro m
  induction m with
  | zero=>simp [nW,zjS]
  | succ m ih=>
   unfold zjS at ih ⊢;rw [List.range_succ,List.flatMap_append,zrD]
   have:nW (List.flatMap (rAct dat d a to split) [m])≤1:=by
    simp only [List.flatMap_cons,List.flatMap_nil,List.append_nil];unfold rAct;split
    ·simp [nW]
    ·exact Nat.le_trans (List.length_filter_le _ _) (by simp)
   omega
 rw [zrD];have:=this 16;have:nW [Act.f d]=0:=rfl;omega
theorem zz7 {dat:Nat→List (List Int)} {d:Int} {a to:Geo} {split:Int} {e b:Int} (c:Int→Int→List Int):
  curs c (zjS dat d a to split 16++[.f d]) e b=if e=d∧36≤b∧b < 52∧d < (gAt a to split (b - 36).toNat).d then atR (gAt a to split (b - 36).toNat) (b - 36) (dat (b - 36).toNat) d else c e b:=by
 have key:∀ m:Nat,curs c (zjS dat d a to split m) e b=if e=d∧36≤b∧b < 36+m∧d < (gAt a to split (b - 36).toNat).d then atR (gAt a to split (b - 36).toNat) (b - 36) (dat (b - 36).toNat) d else c e b:=by
  intro m
  induction m with
  | zero=>rw [if_neg (by omega)]; rfl
  | succ m ih=>
   unfold zjS at ih ⊢;rw [List.range_succ,List.flatMap_append,zm5];simp only [List.flatMap_cons,List.flatMap_nil,List.append_nil]
   have hra:rAct dat d a to split m=if (gAt a to split m).d≤d then [] else [.w d (36+m) (atR (gAt a to split m) m (dat m) d)]:=rfl
   rw [hra];split
   ·rename_i hd;show curs c _ e b=_;rw [ih]
    by_cases hb:b=36+m
    ·rw [if_neg (by omega),if_neg (by rintro ⟨_,_,_,h⟩; rw [show (b - 36).toNat=m by omega] at h; omega)]
    ·by_cases hc:e=d∧36≤b∧b < 36+m∧d < (gAt a to split (b - 36).toNat).d
     ·rw [if_pos hc,if_pos ⟨hc.1,hc.2.1,by omega,hc.2.2.2⟩]
     ·rw [if_neg hc,if_neg (fun q=>hc ⟨q.1,q.2.1,by omega,q.2.2.2⟩)]
   ·rename_i hd
    show (if e=d∧b=36+m then _ else curs c _ e b)=_
    rw [ih]
    by_cases hb:e=d∧b=36+m
    ·have e1:(b - 36).toNat=m:=by omega
     have e2:b - 36=m:=by omega
     rw [if_pos hb,if_pos ⟨hb.1,by omega,by omega,by rw [e1]; omega⟩,e1,e2]
    ·rw [if_neg hb]
     by_cases hc:e=d∧36≤b∧b < 36+m∧d < (gAt a to split (b - 36).toNat).d
     ·rw [if_pos hc,if_pos ⟨hc.1,hc.2.1,by omega,hc.2.2.2⟩]
     ·rw [if_neg hc,if_neg (fun q=>hc ⟨q.1,q.2.1,by omega,q.2.2.2⟩)]
 rw [zm5];show curs c (zjS dat d a to split 16) e b=_;rw [key];rfl
end
section
variable {U V:Tb} {b:Nat} {idx:List Nat} {B:Ben} {n:Nat} {K:Int}
theorem Run.rebuild (h:Run U V b idx B n K) (hK:K≤900000) (tg:Tag) {live:List Bool} {d:Int} {a to:Geo} {split:Int} {dat:Nat→List (List Int)} (d0:0≤d) (d1:d < n) (hl:(live[d.toNat]?).getD false=false) (hm:mayR a to split=true)
  (hf:B.failed d=false) (hS:zx0 B live d a to split dat):∃ B1,
  zaO [.h kB b 0,.sl tg (live.map D.bool),.int .i64 d,.agg [.int .i64 a.l,.int .i64 a.d,.int .i64 a.c],.agg [.int .i64 to.l,.int .i64 to.d,.int .i64 to.c],.int .i64 split] [P0 U b idx B,P1 V idx B]=some (Ans.mk (.int .i64 0) [] [P0 U b idx B1,P1 V idx B1])∧
  Run U V b idx B1 n (K+16)∧(∀ e,B1.failed e=B.failed e)∧
  (∀ e x:Int,0≤e→0≤x→x < 52→B1.cur e x=if e=d∧36≤x∧d < (gAt a to split (x - 36).toNat).d then atR (gAt a to split (x - 36).toNat) (x - 36) (dat (x - 36).toNat) d else B.cur e x)∧
  (∀ e:Int,0≤e→B1.nP e=if e=d then 0 else B.nP e):=by
 have hw:=h.w
 have hr:=zlG h.at' (by omega) tg live d a to split
 have d1':d < B.n:=by rw [h.num]; exact d1
 have hok:=zzc d0 d1' hm hf hS
 have hDo:=zjn (zjS dat d a to split 16++[.f d]) h.at'.ok h.down hok (.inl (by rw [h.left]; omega))
 rw [ztN h.at'.ok h.down d0 d1' hl hm hf hS,hDo.run] at hr;have hn:=zzd (dat:=dat) (d:=d) (a:=a) (to:=to) (split:=split);have hnx:=hDo.nx.w
 refine ⟨_,hr,⟨h.at'.nx hDo.nx,hDo.nx.n.trans h.num,hDo.down.trans h.down,by rw [hDo.left,h.left]; rfl,by show (does B (zjS dat d a to split 16++[.f d])).w≤K+16; omega⟩,hDo.failed,fun e x e0 x0 x1=>?_,fun e e0=>?_⟩
 ·rw [hDo.cur e x e0 x0 x1,zz7]
  by_cases hc:e=d∧36≤x∧d < (gAt a to split (x - 36).toNat).d
  ·rw [if_pos hc,if_pos ⟨hc.1,hc.2.1,x1,hc.2.2⟩]
  ·rw [if_neg hc,if_neg (fun q=>hc ⟨q.1,q.2.1,q.2.2.2⟩)]
 ·by_cases he:e=d
  ·rw [if_pos he,zxC]
   have h2:=zFE h.at'.ok (as':=zjS dat d a to split 16) fun x hx=>hok x (List.mem_append_left _ hx)
   show ((does B (zjS dat d a to split 16)).does1 (.f d)).nP e=0;rw [zy9 (h2.2 _ (hok _ (List.mem_append_right _ (List.mem_singleton.2 rfl)))) e0];exact if_pos he
  ·rw [if_neg he]
   refine zCl e0 _ h.at'.ok hok fun x hx=>?_
   rcases List.mem_append.1 hx with hx | hx
   ·obtain ⟨r,_,_,rfl⟩:=zse hx; exact fun q=>he q.symm
   ·rw [List.mem_singleton.1 hx]; exact fun q=>he q.symm
end
end Wf

namespace Wf
open Go Go.RowKit Go.Proofs
set_option linter.unusedSimpArgs false
set_option linter.unusedVariables false
set_option maxHeartbeats 4000000
theorem zwV:∀ (p:List (Int×List Int)) (ks:List Bool) (k:Nat) (w:Int×List Int),p[k]? =some w→kept (p.take (k+1)) ks=kept (p.take k) ks++(if (ks[k]?).getD false=true then [w] else [])
 | [],_,k,w,h=>by simp at h
 | v::p,[],k,w,h=>by
  have:∀ q:List (Int×List Int),kept q []=[]:=by intro q; cases q<;>rfl
  rw [this,this]; rfl
 | v::p,b::ks,0,w,h=>by
  cases h
  cases b<;>rfl
 | v::p,b::ks,k+1,w,h=>by
  have ih:=zwV p ks k w (by simpa using h)
  show (if b then v::kept (p.take (k+1)) ks else kept (p.take (k+1)) ks)=(if b then v::kept (p.take k) ks else kept (p.take k) ks)++_
  rw [ih];cases b<;>rfl
theorem zwW {ks:List Bool} {k:Nat} (h:k < ks.length):(ks.map D.bool)[k]? =some (.bool ((ks[k]?).getD false)):=by
 rw [List.getElem?_map,List.getElem?_eq_getElem h]; rfl
section
variable {T:Tb} {i:Nat} {s:DS}
theorem zFJ (h:T[i]? =some s.cells) (hs:s.Ok) (hn:s.pend.length≤1000000) (tg:Tag) (ks:List Bool):zbI [.h kD i 0,.sl tg (ks.map D.bool)] [T]=some (Ans.mk (.tup []) [] [T.set i (s.crash ks).cells]):=by
 rw [zmz,ze2];unfold zfV
 have hlp:(s.pend.map wD).length=s.pend.length:=by simp
 simp (disch:=first | omega | assumption | (simp; done) | fail) only [zcw,zag h,zag (zjl hs.len),zbn,zaa,Nat.zero_add,Nat.le_refl,hlp]
 have hkm:∀ k,∀ w∈kept (s.pend.take k) ks,Sec w.2∧0≤w.1∧w.1 < 52:=fun k w hw=>hs.pend w (List.mem_of_mem_take (zhP _ _ w hw))
 let st:Nat→(Nat×List D×(Nat×Nat×Nat)×Int×Int×PUnit)×List (List D)×PUnit:=fun k=>((i,ks.map D.bool,(i,0,s.pend.length),(s.pend.length:Int),(k:Int),PUnit.unit),T.set i (s.puts (kept (s.pend.take k) ks)).cells,PUnit.unit)
 have hst:st 0=((i,ks.map D.bool,(i,0,s.pend.length),(s.pend.length:Int),0,PUnit.unit),T,PUnit.unit):=by
  show ((i,ks.map D.bool,(i,0,s.pend.length),(s.pend.length:Int),0,PUnit.unit),T.set i (s.puts (kept [] ks)).cells,PUnit.unit)=_
  rw [show kept [] ks=[] by cases ks<;>rfl,show s.puts []=s from rfl,set_same h]
 rw [←hst]
 refine zca st s.pend.length (by omega) ?_ ?_
 ·intro again k hk;dsimp only [st];obtain ⟨w,hw⟩:∃ w,s.pend[k]? =some w:=⟨_,List.getElem?_eq_getElem hk⟩;obtain ⟨hws,hw0,hw1⟩:=hs.pend w (List.mem_of_getElem? hw);obtain ⟨pk,pf,pp⟩:=zjm hs (kept (s.pend.take k) ks) (hkm k);have hU:=zgO h (s.puts (kept (s.pend.take k) ks)).cells;have hpd:=zjl (s:=s.puts (kept (s.pend.take k) ks)) pk.len;rw [pp] at hpd;have hsn:=zwV s.pend ks k w hw
  by_cases hlt:k < ks.length
  ·have hg:=zwW hlt;cases hb:(ks[k]?).getD false
   ·rw [hb] at hg hsn
    rw [hsn,if_neg (by simp),List.append_nil]
    simp (disch:=first | omega | assumption | (simp; done) | fail) [zag hU,zag hpd,zag (ztD hw),zcU _ hws.len,hws.len,zi5 hws.len,zgv pk.len,hk,zi4,hlt,zag hg,zal]
   ·rw [hb] at hg hsn
    have hnx:zaQ (T.set i (s.puts (kept (s.pend.take k) ks)).cells) i (w.1.toNat*32) (uL w.2)=T.set i (s.puts (kept (s.pend.take (k+1)) ks)).cells:=by
     rw [zcM hU,zdK,hws.len,zBu pk.len (by omega),List.set_set,hsn,if_pos rfl]
     show _=T.set i (s.puts (kept (s.pend.take k) ks++[w])).cells;unfold DS.puts;rw [List.foldl_append]; rfl
    simp (disch:=first | omega | assumption | (simp; done) | fail) [zag hU,zag hpd,zag (ztD hw),zcU _ hws.len,hws.len,zi5 hws.len,zgv pk.len,hk,zi4,hlt,zag hg,zuF pk.len,hw0,hw1,zal,hnx]
  ·have hb:(ks[k]?).getD false=false:=by rw [List.getElem?_eq_none (by omega)]; rfl
   rw [hb] at hsn
   rw [hsn,if_neg (by simp),List.append_nil]
   simp (disch:=first | omega | assumption | (simp; done) | fail) [zag hU,zag hpd,zag (ztD hw),zcU _ hws.len,hws.len,zi5 hws.len,zgv pk.len,hk,zi4,hlt,zal]
 ·intro again;dsimp only [st];rw [List.take_length]
  have hkm':∀ w∈kept s.pend ks,Sec w.2∧0≤w.1∧w.1 < 52:=fun w hw=>hs.pend w (zhP _ _ w hw)
  obtain ⟨pk,pf,pp⟩:=zjm hs (kept s.pend ks) hkm';have hU:=zgO h (s.puts (kept s.pend ks)).cells
  have hz':zaQ (T.set i (s.puts (kept s.pend ks)).cells) i 1664 [D.sl Tag.own []]=T.set i (s.crash ks).cells:=by
   have:=zr4 hU pk.len [];rw [List.set_set] at this; exact this
  simp (disch:=first | omega | assumption | (simp; done) | fail) [zag hU,zgv pk.len,hz']
end
def Ben.crashK (B:Ben) (ks:List Bool):Nat→Ben×List Bool
 | 0=>(B,ks)
 | k+1=>((B.crashK ks k).1.setD k (((B.crashK ks k).1.dk k).crash ((B.crashK ks k).2.take ((B.crashK ks k).1.dk k).pend.length)),(B.crashK ks k).2.drop ((B.crashK ks k).1.dk k).pend.length)
def Ben.crash (B:Ben) (ks:List Bool):Ben:={ (B.crashK ks B.ds.length).1 with left:= -1,down:=false }
section
variable {B:Ben}
theorem zwX {s:DS} (h:s.Ok) (ks:List Bool):(s.crash ks).failed=s.failed:=(zjm h (kept s.pend ks) fun w hw=>h.pend w (zhP _ _ w hw)).2.1
theorem zsf (hB:B.Ok) (ks:List Bool):∀ k,k≤B.ds.length→Nx 0 B (B.crashK ks k).1∧(B.crashK ks k).1.w=B.w∧∀ e:Int,0≤e→if e < k then ∃ l,(B.crashK ks k).1.dk e=(B.dk e).crash l else (B.crashK ks k).1.dk e=B.dk e
 | 0,_=>⟨.rfl' hB (by omega),rfl,fun e e0=>by rw [if_neg (by omega)]; rfl⟩
 | k+1,hk=>by
  obtain ⟨h1,h1w,h2⟩:=zsf hB ks k (by omega)
  have hn:=h1.n;unfold Ben.n at hn
  have hd:(B.crashK ks k).1.is k=true:=zc4.2 ⟨by omega,by unfold Ben.n; omega⟩
  have hk2:=h2 k (by omega)
  rw [if_neg (by omega)] at hk2
  have hok:=zC7 (zh2 hB k).1 ((B.crashK ks k).2.take (B.dk k).pend.length)
  have hc:(B.crashK ks (k+1)).1=(B.crashK ks k).1.setD k ((B.dk k).crash ((B.crashK ks k).2.take (B.dk k).pend.length)):=by
   show (B.crashK ks k).1.setD k (((B.crashK ks k).1.dk k).crash ((B.crashK ks k).2.take ((B.crashK ks k).1.dk k).pend.length))=_;rw [hk2]
  rw [hc]
  refine ⟨⟨zkU h1.ok hok ?_,by rw [zBy]; exact h1.n,by rw [zBA]; exact h1.le,by rw [zBA]; exact h1.w⟩,by rw [zBA]; exact h1w,fun e e0=>?_⟩
  ·show (([]:List (Int×List Int)).length:Int)≤_;have:=h1.ok.w0; simpa using this
  ·rw [zeq hd e0]
   by_cases he:e=k
   ·subst he; rw [if_pos (by omega),if_pos rfl]; exact ⟨_,rfl⟩
   ·rw [if_neg he];have:=h2 e e0
    by_cases hlt:e < k
    ·rw [if_pos hlt] at this; rw [if_pos (by omega)]; exact this
    ·rw [if_neg hlt] at this; rw [if_neg (by omega)]; exact this
theorem zi8 (hB:B.Ok) (ks:List Bool):Nx 0 B (B.crash ks)∧(B.crash ks).w=B.w∧(B.crash ks).left= -1∧(B.crash ks).down=false∧∀ e:Int,B.is e=true→∃ l,(B.crash ks).dk e=(B.dk e).crash l:=by
 obtain ⟨h1,h1w,h2⟩:=zsf hB ks B.ds.length (Nat.le_refl _)
 refine ⟨⟨⟨h1.ok.w0,by show (-1:Int)≤1000000000; omega,h1.ok.small,h1.ok.ds⟩,h1.n,h1.le,h1.w⟩,h1w,rfl,rfl,fun e he=>?_⟩
 obtain ⟨e0,e1⟩:=zc4.1 he;have:=h2 e e0
 rw [if_pos (by unfold Ben.n at e1; exact e1)] at this
 exact this
end
section
variable {T0 T1:Tb} {b:Nat} {idx:List Nat} {B:Ben}
theorem zFK (h:At T0 T1 b idx B) (hw:B.w≤1000000) (tg:Tag) (ks:List Bool):
  zbj [.h kB b 0,.sl tg (ks.map D.bool)] [P0 T0 b idx B,P1 T1 idx B]=some (Ans.mk (.tup []) [] [P0 T0 b idx (B.crash ks),P1 T1 idx (B.crash ks)]):=by
 rw [zkx,ze2];unfold zeW;have hrow:(P0 T0 b idx B)[b]? =some [.int .i64 B.w,.int .i64 B.left,.bool B.down,.sl .own (idx.map hD)]:=h.get0;have hsm:=h.ok.small
 simp (disch:=first | omega | assumption | (simp; done) | fail) only [zcw,zag hrow,zdJ,zf4,zbn,zaa,Nat.zero_add,Nat.le_refl,List.length_map,h.len]
 have hcr:=fun k hk=>zsf h.ok ks k hk
 have hp:∀ k,P0 T0 b idx (B.crashK ks k).1=P0 T0 b idx B:=by
  intro k
  induction k with
  | zero=>rfl
  | succ k ih=>rw [←ih]; rfl
 let st:Nat→(Nat×List D×(Nat×Nat×Nat)×Int×Int×PUnit)×List (List D)×List (List D)×PUnit:=fun k=>((b,(B.crashK ks k).2.map D.bool,(b,0,B.ds.length),(B.ds.length:Int),(k:Int),PUnit.unit),P0 T0 b idx B,P1 T1 idx (B.crashK ks k).1,PUnit.unit)
 show zb7 _ (st 0)=_
 refine zca st B.ds.length (by omega) ?_ ?_
 ·intro again k hk;dsimp only [st]
  obtain ⟨h1,h1w,h2⟩:=hcr k (by omega)
  have hA:=h.nx h1;have hn:=h1.n;unfold Ben.n at hn
  have hd:(B.crashK ks k).1.is k=true:=zc4.2 ⟨by omega,by unfold Ben.n; omega⟩
  have hhd:(idx.map hD)[k]? =some (.h kD (ix idx k) 0):=by have:=hA.hd hd; simpa using this
  obtain ⟨ho,hpl⟩:=hA.ds (by omega) k
  have hcrash:=zFJ (hA.get1 hd) ho hpl;have hpend:=zwE (hA.get1 hd) ho;have hset:=hA.set1 hd;have hnx1:(B.crashK ks (k+1)).1=(B.crashK ks k).1.setD k (((B.crashK ks k).1.dk k).crash ((B.crashK ks k).2.take ((B.crashK ks k).1.dk k).pend.length)):=rfl;have hnx2:(B.crashK ks (k+1)).2=(B.crashK ks k).2.drop ((B.crashK ks k).1.dk k).pend.length:=rfl;rw [hnx1,hnx2];generalize (B.crashK ks k).1=C at*;generalize (B.crashK ks k).2=r at*;generalize hm:(C.dk k).pend.length=m at*
  have hmin0:0≤min (m:Int) (r.length:Int):=by omega
  have hmin1:min (m:Int) (r.length:Int)≤(r.length:Int):=by omega
  have hro:zsl 1 (r.map D.bool)=true:=by simp [zsl,D.cell,D.width]
  have hcut1:cutI 0 (min (m:Int) (r.length:Int)) (r.map D.bool)=(r.take m).map D.bool:=by
   unfold cutI
   rw [show (min (m:Int) (r.length:Int) - 0).toNat=min m r.length by omega,Int.toNat_zero,List.drop_zero,←List.map_take]
   refine congrArg (List.map D.bool) ?_
   by_cases q:m≤r.length
   ·rw [Nat.min_eq_left q]
   ·rw [Nat.min_eq_right (by omega),List.take_of_length_le (by omega),List.take_of_length_le (by omega)]
  have hcut2:cutI (min (m:Int) (r.length:Int)) (r.length:Int) (r.map D.bool)=(r.drop m).map D.bool:=by
   unfold cutI
   rw [←List.map_drop,List.take_of_length_le (by rw [List.length_map,List.length_drop]; omega)]
   refine congrArg (List.map D.bool) ?_
   by_cases q:m≤r.length
   ·rw [show (min (m:Int) (r.length:Int)).toNat=m by omega]
   ·rw [List.drop_of_length_le (by omega),List.drop_of_length_le (by omega)]
  have hk8:(k:Int) < (B.ds.length:Int):=by omega
  have hkk:k < B.ds.length:=hk
  have hwr:IntKind.i64.wrap ((k:Int)+1)=((k+1:Nat):Int):=by rw [zal (by omega) (by omega)]; omega
  have i1:(D.h kD (ix idx k) 0).isAgg=false:=rfl;have i2:(D.h kD (ix idx k) 0).width=1:=rfl;have i3:(D.h kD (ix idx k) 0).cell=true:=rfl
  simp (disch:=first | omega | assumption | (simp; done) | fail) only [zcw,zus,zag hrow,zdJ,zf4,zbn,zaa,Nat.zero_add,Int.toNat_natCast,zag hhd,hpend,zac,zaW,zbg,zaR,List.length_map,hro,hcut1,hcrash,zbP,zdp,hset,hcut2,hwr,Int.le_refl,i1,i2,i3]
 ·intro again;dsimp only [st]
  have hset1:zaQ (P0 T0 b idx B) b 1 [.int .i64 (-1)]=(P0 T0 b idx B).set b [.int .i64 B.w,.int .i64 (-1),.bool B.down,.sl .own (idx.map hD)]:=by
   rw [zcM hrow]; rfl
  have hg1:=zgO hrow [.int .i64 B.w,.int .i64 (-1),.bool B.down,.sl .own (idx.map hD)]
  have hset2:zaQ ((P0 T0 b idx B).set b [.int .i64 B.w,.int .i64 (-1),.bool B.down,.sl .own (idx.map hD)]) b 2 [.bool false]=P0 T0 b idx (B.crash ks):=by
   rw [zcM hg1,List.set_set]
   have:P0 T0 b idx (B.crash ks)=(P0 T0 b idx B).set b (bRow (B.crash ks) idx):=by unfold P0; rw [List.set_set]
   rw [this];have hw2:(B.crash ks).w=B.w:=(zi8 h.ok ks).2.1;unfold bRow;rw [hw2];rfl
  have hcr1:P1 T1 idx (B.crashK ks B.ds.length).1=P1 T1 idx (B.crash ks):=rfl
  simp (disch:=first | omega | assumption | (simp; done) | fail) [zag hrow,hset1,zag hg1,hset2,ze3,D.flat,hcr1]
end
end Wf

namespace Wf
open Go Go.RowKit Go.Proofs
set_option linter.unusedSimpArgs false
set_option linter.unusedVariables false
set_option maxHeartbeats 4000000
section
variable {T0 T1:Tb} {b:Nat} {idx:List Nat} {B:Ben}
theorem zDP (h:At T0 T1 b idx B) (hw:B.w≤1000000):
  za8 [.h kB b 0] [P0 T0 b idx B,P1 T1 idx B]=some (Ans.mk (.h kB (P0 T0 b idx B).length 0) []
   [P0 T0 b idx B++[zpF B.w B.left B.down ((List.range B.ds.length).map fun j=>hD ((P1 T1 idx B).length+j))],P1 T1 idx B++B.ds.map DS.cells]):=by
 rw [zkv];unfold zeV;have hrow:(P0 T0 b idx B)[b]? =some [.int .i64 B.w,.int .i64 B.left,.bool B.down,.sl .own (idx.map hD)]:=h.get0;have hsm:=h.ok.small;have hfl:ze3 (List.take 3 (List.drop 0 [D.int .i64 B.w,D.int .i64 B.left,D.bool B.down,D.sl .own (idx.map hD)]))=true:=rfl;have htk:List.take 3 (List.drop 0 [D.int .i64 B.w,D.int .i64 B.left,D.bool B.down,D.sl .own (idx.map hD)])=[D.int .i64 B.w,D.int .i64 B.left,D.bool B.down]:=rfl
 have hgc:∀ {R:Type} (f:LfT [.int .i64,.int .i64,.bool]→Option R),zat [.int .i64,.int .i64,.bool] [D.int .i64 B.w,D.int .i64 B.left,D.bool B.down] f=f (B.w,B.left,B.down,()):=by
  intro R f; rw [zdx,zdx,zuq,zd4]
 rw [zag hrow,zaa (by simp),hfl,zaa rfl,htk,hgc]
 simp (disch:=first | omega | assumption | (simp; done) | fail) only [zcw,zag hrow,zdJ,zf4,zbn,zaa,Nat.zero_add,Nat.le_refl,List.length_map,h.len]
 generalize hX:P0 T0 b idx B=X at*;generalize hY:P1 T1 idx B=Y at*
 let st:Nat→(((Int×Int×Bool×(Tag×List D)×PUnit)×List D)×(Nat×Nat×Nat)×Int×Int×PUnit)×List (List D)×List (List D)×PUnit:=fun k=>
  ((((B.w,B.left,B.down,(Tag.nil,[]),PUnit.unit),(List.range k).map fun j=>hD (Y.length+j)),(b,0,B.ds.length),(B.ds.length:Int),(k:Int),PUnit.unit),X,Y++(B.ds.take k).map DS.cells,PUnit.unit)
 have hst:st 0=((((B.w,B.left,B.down,(Tag.nil,[]),PUnit.unit),[]),(b,0,B.ds.length),(B.ds.length:Int),0,PUnit.unit),X,Y,PUnit.unit):=by simp [st]
 rw [←hst]
 refine zca st B.ds.length (by omega) ?_ ?_
 ·intro again k hk;dsimp only [st]
  have hd:B.is k=true:=zc4.2 ⟨by omega,by unfold Ben.n; omega⟩
  have hhd:(idx.map hD)[k]? =some (.h kD (ix idx k) 0):=by have:=h.hd hd; simpa using this
  obtain ⟨ho,hpl⟩:=h.ds hw k;have hg:=h.get1 hd;rw [hY] at hg
  have hg2:(Y++(B.ds.take k).map DS.cells)[ix idx k]? =some (B.dk k).cells:=by
   rw [List.getElem?_append_left (List.getElem?_eq_some_iff.1 hg).1]; exact hg
  have hcl:=zvb hg2 ho hpl
  have hlen:(Y++(B.ds.take k).map DS.cells).length=Y.length+k:=by simp; omega
  have hdk:B.ds[k]? =some (B.dk k):=by unfold Ben.dk; rw [Int.toNat_natCast,List.getElem?_eq_getElem hk]; rfl
  have hsn:(Y++(B.ds.take k).map DS.cells)++[(B.dk k).cells]=Y++(B.ds.take (k+1)).map DS.cells:=by
   rw [List.take_add_one,hdk,List.append_assoc]; simp
  rw [hlen,hsn] at hcl
  have hkk:(k:Int) < (B.ds.length:Int):=by omega
  have hH:(List.map (fun j=>hD (Y.length+j)) (List.range k))++[D.h kD (Y.length+k) 0]=(List.range (k+1)).map fun j=>hD (Y.length+j):=zsc Y.length k
  have i1:(D.h kD (ix idx k) 0).isAgg=false:=rfl;have i2:(D.h kD (ix idx k) 0).width=1:=rfl;have i3:(D.h kD (ix idx k) 0).cell=true:=rfl;have i4:zdT 1 [D.h kD (Y.length+k) 0]=true:=rfl
  have hwr:IntKind.i64.wrap ((k:Int)+1)=((k+1:Nat):Int):=by rw [zal (by omega) (by omega)]; omega
  simp (disch:=first | omega | assumption | (simp; done) | fail) only [zcw,zus,zag hrow,zdJ,zf4,zbn,zaa,Nat.zero_add,Int.toNat_natCast,zag hhd,i1,i2,i3,hcl,zac,zaW,zbP,zy8,i4,List.length_map,List.length_range,hH,zaR,hwr]
 ·intro again;dsimp only [st]
  have e1:((List.range B.ds.length).map fun j=>hD (Y.length+j))=((List.range B.ds.length).map fun j=>Y.length+j).map hD:=by rw [List.map_map]; rfl
  have f1:=ztK ((List.range B.ds.length).map fun j=>Y.length+j)
  have f2:=zwQ ((List.range B.ds.length).map fun j=>Y.length+j)
  rw [←e1] at f1 f2
  have hnl:¬ ((B.ds.length:Nat):Int) < ((B.ds.length:Nat):Int):=by omega
  simp (disch:=first | omega | assumption | (simp; done) | fail) only [zcw,zsm,zaa,f1,f2,zm0,List.take_length]
  simp [zpF,D.own0]
structure Aside (U V:Tb) (b:Nat) (idx:List Nat) (b2:Nat) (idx2:List Nat) (C:Ben):Prop where
 ne:b2≠b
 lt:b2 < U.length
 row:U[b2]? =some (bRow C idx2)
 nd:idx2.Nodup
 len:idx2.length=C.ds.length
 ok:C.Ok
 g:C.g=[]
 dis:∀ i∈idx2,i ∉ idx
 cells:∀ (j i:Nat) (c:List D),idx2[j]? =some i→(C.ds.map DS.cells)[j]? =some c→V[i]? =some c
theorem Aside.vlt {U V:Tb} {b:Nat} {idx:List Nat} {b2:Nat} {idx2:List Nat} {C:Ben} (h:Aside U V b idx b2 idx2 C):∀ i∈idx2,i < V.length:=fun i hi=>by
 obtain ⟨j,hj,rfl⟩:=List.mem_iff_getElem.1 hi
 have h2:=h.cells j idx2[j] ((C.ds.map DS.cells)[j]'(by rw [List.length_map,←h.len]; exact hj)) (List.getElem?_eq_getElem hj) (List.getElem?_eq_getElem _)
 exact (List.getElem?_eq_some_iff.1 h2).1
theorem Aside.at' {U V:Tb} {b:Nat} {idx:List Nat} {b2:Nat} {idx2:List Nat} {C:Ben} (h:Aside U V b idx b2 idx2 C) (B1:Ben):At (P0 U b idx B1) (P1 V idx B1) b2 idx2 C:=by
 have e0:∀ X:Tb,(P0 X b idx B1).length=X.length:=fun X=>zD9
 have e1:∀ X:Tb,(P1 X idx B1).length=X.length+B1.g.length:=fun X=>zrC
 exact ⟨by rw [e0]; exact h.lt,h.nd,fun i hi=>by rw [e1]; have:=h.vlt i hi; omega,h.len,h.ok⟩
theorem Aside.p0 {U V:Tb} {b:Nat} {idx:List Nat} {b2:Nat} {idx2:List Nat} {C:Ben} (h:Aside U V b idx b2 idx2 C) (B1:Ben):P0 (P0 U b idx B1) b2 idx2 C=P0 U b idx B1:=by
 refine zxB ?_;unfold P0
 rw [List.getElem?_set,if_neg (fun q=>h.ne q.symm)]
 exact h.row
theorem Aside.get {U V:Tb} {b:Nat} {idx:List Nat} {b2:Nat} {idx2:List Nat} {C:Ben} (h:Aside U V b idx b2 idx2 C) (B1:Ben) {i:Nat} (hi:i∈idx2):(P1 V idx B1)[i]? =V[i]? :=by
 unfold P1
 rw [List.getElem?_append_left (by rw [zob]; exact h.vlt i hi),ztr _ _ _ (h.dis i hi)]
theorem Aside.p1 {U V:Tb} {b:Nat} {idx:List Nat} {b2:Nat} {idx2:List Nat} {C:Ben} (h:Aside U V b idx b2 idx2 C) (B1:Ben):P1 (P1 V idx B1) idx2 C=P1 V idx B1:=by
 show putL _ _ (C.ds.map DS.cells)++C.g=_;rw [h.g,List.append_nil]
 refine zkV fun j i c h1 h2=>?_
 rw [h.get B1 (List.mem_of_getElem? h1)];exact h.cells j i c h1 h2
def Ben.clean (B:Ben):Ben:={ B with g:=[] }
theorem zqD (h:B.Ok):B.clean.Ok:=⟨h.w0,h.lf,h.small,h.ds⟩
theorem zCm (T1:Tb) (idx:List Nat) (B:Ben) (h:At T0 T1 b idx B) (X:Tb):putL (P1 T1 idx B++X) idx (B.ds.map DS.cells)=P1 T1 idx B++X:=by
 refine zkV fun j i c h1 h2=>?_
 have hj:j < B.ds.length:=by
  have:=(List.getElem?_eq_some_iff.1 h2).1; simpa using this
 have hd:B.is (j:Int)=true:=zc4.2 ⟨by omega,by unfold Ben.n; omega⟩
 have hg:=h.get1 hd;have hi:=h.ixl hd;rw [Int.toNat_natCast,h1] at hi;have e:ix idx (j:Int)=i:=(Option.some.inj hi).symm;rw [e] at hg;rw [List.getElem?_append_left (List.getElem?_eq_some_iff.1 hg).1,hg];have hdk:=h.dks hd;rw [Int.toNat_natCast,h2] at hdk;exact hdk.symm
theorem zFL (h:At T0 T1 b idx B) (hw:B.w≤1000000):∃ U V b2 idx2,
  za8 [.h kB b 0] [P0 T0 b idx B,P1 T1 idx B]=some (Ans.mk (.h kB b2 0) [] [P0 U b idx B.clean,P1 V idx B.clean])∧At U V b idx B.clean∧Aside U V b idx b2 idx2 B.clean:=by
 have hl:=h.len;have hX:(P0 T0 b idx B).length=T0.length:=zD9
 have hbl:b < (P0 T0 b idx B).length:=by rw [hX]; exact h.b
 refine ⟨P0 T0 b idx B++[zpF B.w B.left B.down ((List.range B.ds.length).map fun j=>hD ((P1 T1 idx B).length+j))],P1 T1 idx B++B.ds.map DS.cells,(P0 T0 b idx B).length,(List.range B.ds.length).map fun j=>(P1 T1 idx B).length+j,?_,?_,?_⟩
 ·rw [zDP h hw]
  have e1:P0 (P0 T0 b idx B++[zpF B.w B.left B.down ((List.range B.ds.length).map fun j=>hD ((P1 T1 idx B).length+j))]) b idx B.clean=P0 T0 b idx B++[zpF B.w B.left B.down ((List.range B.ds.length).map fun j=>hD ((P1 T1 idx B).length+j))]:=
   zxB (B:=B.clean) (by rw [List.getElem?_append_left hbl]; exact h.get0)
  have e2:P1 (P1 T1 idx B++B.ds.map DS.cells) idx B.clean=P1 T1 idx B++B.ds.map DS.cells:=by
   show putL _ idx (B.ds.map DS.cells)++[]=_;rw [List.append_nil];exact zCm T1 idx B h _
  rw [e1,e2]
 ·refine ⟨by rw [List.length_append]; omega,h.nd,fun i hi=>?_,hl,zqD h.ok⟩
  rw [List.length_append,zrC];have:=h.lt i hi; omega
 ·refine ⟨by omega,by rw [List.length_append]; simp,?_,?_,by simp [Ben.clean],zqD h.ok,rfl,fun i hi hm=>?_,fun j i c h1 h2=>?_⟩
  ·rw [List.getElem?_append_right (Nat.le_refl _),Nat.sub_self];simp [zpF,bRow,Ben.clean,List.map_map]
  ·rw [List.nodup_iff_pairwise_ne,List.pairwise_map]
   exact List.Pairwise.imp (fun hab q=>by omega) List.pairwise_lt_range
  ·obtain ⟨j,hj,rfl⟩:=List.mem_map.1 hi;have:=h.lt _ hm; rw [zrC] at this; omega
  ·have hj:j < B.ds.length:=by
    have:=(List.getElem?_eq_some_iff.1 h2).1; simpa [Ben.clean] using this
   rw [List.getElem?_map,List.getElem?_range hj] at h1;have e:i=(P1 T1 idx B).length+j:=(Option.some.inj h1).symm;subst e
   rw [List.getElem?_append_right (by omega),show (P1 T1 idx B).length+j - (P1 T1 idx B).length=j by omega]
   exact h2
theorem zCn (h:At T0 T1 b idx B) {d:Int} (hd:B.is d=true) (hf:B.failed d=true):
  zaX [.h kB b 0,.int .i64 d] [P0 T0 b idx B,P1 T1 idx B]=some (Ans.mk (.int .i64 0) []
   [(P0 T0 b idx B).set b [.int .i64 B.w,.int .i64 B.left,.bool B.down,.sl .own ((idx.set d.toNat (P1 T1 idx B).length).map hD)],P1 T1 idx B++[DS.new.cells]]):=by
 rw [ziY];unfold zeb;obtain ⟨h0,h1⟩:=zc4.1 hd
 have h1':d.toNat < idx.length:=by have:=h.len; unfold Ben.n at h1; omega
 have hrow:(P0 T0 b idx B)[b]? =some [.int .i64 B.w,.int .i64 B.left,.bool B.down,.sl .own (idx.map hD)]:=h.get0;have hdf:=zyT (h.get1 hd) (zh2 h.ok d).1;rw [zd5 hd] at hf;rw [hf] at hdf;have i1:(D.h kD (ix idx d) 0).isAgg=false:=rfl;have i2:(D.h kD (ix idx d) 0).width=1:=rfl;have i3:(D.h kD (ix idx d) 0).cell=true:=rfl;have hnew:=zGK (P1 T1 idx B);have hst:=zur (o:=3) (x:=D.sl .own ((idx.map hD).set d.toNat (D.h kD (P1 T1 idx B).length 0))) hrow
 have hms:(idx.map hD).set d.toNat (D.h kD (P1 T1 idx B).length 0)=(idx.set d.toNat (P1 T1 idx B).length).map hD:=by rw [List.map_set]; rfl
 have hH:∀ f:Nat→Option Ans,asH 7649 (D.h kD (P1 T1 idx B).length 0) f=f (P1 T1 idx B).length:=fun f=>zGj ..
 simp (disch:=first | omega | assumption | (simp; done) | fail) only [zcw,b_is h d,hd,zac,zaW,zck,Bool.not_true,zar,zag hrow,zdJ,zf4,zbn,zaa,List.length_map,Nat.zero_add,zag (h.hd hd),i1,i2,i3,hdf,hnew,zbP,zy8,hH,zm0]
 have:setT (P0 T0 b idx B) b 3 (D.sl .own ((idx.map hD).set d.toNat (D.h 7649 (P1 T1 idx B).length 0)))=(P0 T0 b idx B).set b [.int .i64 B.w,.int .i64 B.left,.bool B.down,.sl .own ((idx.set d.toNat (P1 T1 idx B).length).map hD)]:=by
  refine hst.trans ?_;rw [hms]; rfl
 rw [this]
end
section
variable {U V:Tb} {b:Nat} {idx:List Nat} {B:Ben} {n:Nat} {K:Int}
theorem Run.replace (h:Run U V b idx B n K) {d:Int} (d0:0≤d) (d1:d < n) (hf:B.failed d=true):∃ V' idx' B1,
  zaX [.h kB b 0,.int .i64 d] [P0 U b idx B,P1 V idx B]=some (Ans.mk (.int .i64 0) [] [P0 U b idx' B1,P1 V' idx' B1])∧Run U V' b idx' B1 n K∧B1.w=B.w∧(∀ e:Int,0≤e→B1.dk e=if e=d then .new else B.dk e)∧∀ b2 idx2 C,Aside U V b idx b2 idx2 C→Aside U V' b idx' b2 idx2 C:=by
 have hd:=h.is d0 d1;have hA:=h.at';have hr:=zCn hA hd hf;have hlen:=hA.len
 have hl:d.toNat < idx.length:=by have h1:=(zc4.1 hd).2; unfold Ben.n at h1; omega
 let idx':=idx.set d.toNat (P1 V idx B).length;let B1:Ben:=(B.setD d .new).clean
 have hfresh:(P1 V idx B).length ∉ idx:=fun hm=>by have:=hA.lt _ hm; rw [zrC] at this; omega
 have hnd:idx'.Nodup:=by
  rw [List.nodup_iff_pairwise_ne,List.pairwise_iff_getElem];intro i j hi hj hij
  have hi':i < idx.length:=by simpa [idx'] using hi
  have hj':j < idx.length:=by simpa [idx'] using hj
  show (idx.set d.toNat (P1 V idx B).length)[i]≠(idx.set d.toNat (P1 V idx B).length)[j];rw [List.getElem_set,List.getElem_set]
  by_cases e1:d.toNat=i
  ·rw [if_pos e1,if_neg (by omega)]
   intro q; exact hfresh (by rw [q]; exact List.getElem_mem _)
  ·rw [if_neg e1]
   by_cases e2:d.toNat=j
   ·rw [if_pos e2]
    intro q; exact hfresh (by rw [←q]; exact List.getElem_mem _)
   ·rw [if_neg e2];exact List.pairwise_iff_getElem.1 (List.nodup_iff_pairwise_ne.1 hA.nd) i j hi' hj' hij
 have hok:B1.Ok:=zqD (zkU hA.ok zBw hA.ok.w0)
 have hat:At U (P1 V idx B++[DS.new.cells]) b idx' B1:=by
  refine ⟨hA.b,hnd,fun i hi=>?_,?_,hok⟩
  ·rw [List.length_append];rcases List.mem_or_eq_of_mem_set hi with hi | hi
   ·have:=hA.lt i hi; rw [zrC]; omega
   ·rw [hi]; simp
  ·show (idx.set d.toNat _).length=(B.ds.set d.toNat .new).length;rw [List.length_set,List.length_set]; exact hlen
 refine ⟨P1 V idx B++[DS.new.cells],idx',B1,?_,⟨hat,?_,h.down,h.left,h.w⟩,rfl,fun e e0=>?_,fun b2 idx2 C hC=>?_⟩
 ·rw [hr]
  have e1:P0 U b idx' B1=(P0 U b idx B).set b [.int .i64 B.w,.int .i64 B.left,.bool B.down,.sl .own ((idx.set d.toNat (P1 V idx B).length).map hD)]:=by
   unfold P0;rw [List.set_set];rfl
  have e2:P1 (P1 V idx B++[DS.new.cells]) idx' B1=P1 V idx B++[DS.new.cells]:=by
    show putL _ idx' ((B.ds.set d.toNat .new).map DS.cells)++[]=_;rw [List.append_nil]
    refine zkV fun j i c h1 h2=>?_
    have hj:j < idx.length:=by have:=(List.getElem?_eq_some_iff.1 h1).1; simpa [idx'] using this
    show (P1 V idx B++[DS.new.cells])[i]? =some c;rw [List.getElem?_map,List.getElem?_set] at h2;have h1:(idx.set d.toNat (P1 V idx B).length)[j]? =some i:=h1;rw [List.getElem?_set] at h1
    by_cases e:d.toNat=j
    ·rw [if_pos e,if_pos hl] at h1
     rw [if_pos e,if_pos (by omega)] at h2
     cases h1; cases h2;rw [List.getElem?_append_right (Nat.le_refl _),Nat.sub_self]; rfl
    ·rw [if_neg e] at h1 h2
     have hdj:B.is (j:Int)=true:=zc4.2 ⟨by omega,by unfold Ben.n; omega⟩
     have hg:=hA.get1 hdj;have hi:=hA.ixl hdj;rw [Int.toNat_natCast,h1] at hi;rw [←Option.some.inj hi] at hg;rw [List.getElem?_append_left (List.getElem?_eq_some_iff.1 hg).1,hg];have hdk:=hA.dks hdj;rw [Int.toNat_natCast,List.getElem?_map] at hdk;rw [←hdk]; exact h2
  rw [e1,e2]
 ·show (B.setD d .new).n=_;rw [zBy]; exact h.num
 ·show (B.setD d .new).dk e=_;exact zeq hd e0 _
 ·refine ⟨hC.ne,hC.lt,hC.row,hC.nd,hC.len,hC.ok,hC.g,fun i hi hm=>?_,fun j i c h1 h2=>?_⟩
  ·rcases List.mem_or_eq_of_mem_set hm with hm | hm
   ·exact hC.dis i hi hm
   ·have:=hC.vlt i hi;rw [hm,zrC] at this; omega
  ·have hi:=List.mem_of_getElem? h1;have hlt:=hC.vlt i hi
   rw [List.getElem?_append_left (by rw [zrC]; omega),hC.get B hi]
   exact hC.cells j i c h1 h2
theorem Run.clone (h:Run U V b idx B n K) (hK:K≤900000):∃ U' V' b2 idx2,
  za8 [.h kB b 0] [P0 U b idx B,P1 V idx B]=some (Ans.mk (.h kB b2 0) [] [P0 U' b idx B.clean,P1 V' idx B.clean])∧Run U' V' b idx B.clean n K∧Aside U' V' b idx b2 idx2 B.clean:=by
 obtain ⟨U',V',b2,idx2,h1,h2,h3⟩:=zFL h.at' (by have:=h.w; omega)
 exact ⟨U',V',b2,idx2,h1,⟨h2,h.num,h.down,h.left,h.w⟩,h3⟩
theorem Aside.read {b2:Nat} {idx2:List Nat} {C:Ben} (h:Aside U V b idx b2 idx2 C) (hw:C.w≤1000000) (B1:Ben) (d a:Int):
  zau [.h kB b2 0,.int .i64 d,.int .i64 a] [P0 U b idx B1,P1 V idx B1]=some (Ans.mk (.tup [.sl .own (uL (C.read d a).1),.int .i64 (C.read d a).2]) [] []):=by
 have:=zyV (h.at' B1) hw d a;rw [h.p0,h.p1] at this;exact this
end
end Wf

namespace Wf
open Go Go.RowKit Go.Proofs
set_option linter.unusedSimpArgs false
set_option linter.unusedVariables false
set_option maxHeartbeats 4000000
section
variable {T0 T1:Tb}
theorem both {a to:Geo} {split:Int} (hm:mayR a to split=true) {n:Nat} (n0:1≤n) (n8:n≤8) (tg:Tag) (l:List Int):
  zbr [.agg [.int .i64 a.l,.int .i64 a.d,.int .i64 a.c],.agg [.int .i64 to.l,.int .i64 to.d,.int .i64 to.c],.int .i64 split,.int .i64 n,.sl tg (intL l)] [T0,T1]=
   some (Ans.mk (.h kB T0.length 0) [] [P0 (nT0 T0 T1 n) T0.length (nIdx T1 n) (zi7 (gAt a to split) l n 16),P1 (nT1 T1 n) (nIdx T1 n) (zi7 (gAt a to split) l n 16)]):=by
 rw [zly,zrr];unfold zfo;have hat0:=zCa T0 T1 n8;have hnew:=zGV T0 T1 n0 n8;generalize nT0 T0 T1 n=U0 at*;generalize nT1 T1 n=U1 at*;generalize nIdx T1 n=idx at*;have hkk:=ztM hm
 have hF:=fun R hR=>zlF (gs:=gAt a to split) (l:=l) n8 hkk R hR
 have hat:∀ B:Ben,B.Ok→B.n=n→At U0 U1 T0.length idx B:=fun B hB hn=>⟨hat0.b,hat0.nd,hat0.lt,by rw [hat0.len]; unfold Ben.n at hn; simp [Ben.new]; omega,hB⟩
 simp (disch:=first | omega | assumption | (simp; done) | fail) only [zcw,hnew,zac,zaW,zbP,zdp,zr9,zbg,zjV,zxo,zar,show zha (D.h kB T0.length 0)=true from rfl,zaa]
 let st:Nat→(Int×Int×List D×(Int×Int×Int×PUnit)×(Int×Int×Int×PUnit)×D×Int×PUnit)×List (List D)×List (List D)×PUnit:=fun r=>((split,(n:Int),intL l,(a.l,a.d,a.c,PUnit.unit),(to.l,to.d,to.c,PUnit.unit),.h kB T0.length 0,(r:Int),PUnit.unit),P0 U0 T0.length idx (zi7 (gAt a to split) l n r),P1 U1 idx (zi7 (gAt a to split) l n r),PUnit.unit)
 show zb7 _ (st 0)=_
 refine zca st 16 (by omega) ?_ ?_
 ·intro again r hr;dsimp only [st];have hk:=hkk r;have hw:=zdn hk;have hdd:=ok_d hk
  have hr16:(r:Int) < 16:=by omega
  rw [zus hr16]
  refine zFD (fun x=>x=(((split,(n:Int),intL l,(a.l,a.d,a.c,PUnit.unit),(to.l,to.d,to.c,PUnit.unit),.h kB T0.length 0,(r:Int),((gAt a to split r).l,(gAt a to split r).d,(gAt a to split r).c,PUnit.unit),PUnit.unit),P0 U0 T0.length idx (zi7 (gAt a to split) l n r),P1 U1 idx (zi7 (gAt a to split) l n r),PUnit.unit))) ?_ ?_
  rotate_left
  ·intro j hj
   by_cases hs:(r:Int) < split
   ·rw [zus hs];refine hj _ ?_
    have:gAt a to split r=to:=by unfold gAt; rw [if_pos hs]
    rw [this]
   ·rw [zsm hs];refine hj _ ?_
    have:gAt a to split r=a:=by unfold gAt; rw [if_neg hs]
    rw [this]
  rintro _ rfl
  dsimp only
  have hfine:zcN (gAt a to split r) (r:Int)=true:=zbV.2 ⟨hk,by omega,by omega⟩
  have hm1:0≤min (r:Int) (l.length:Int):=by omega
  have hm2:min (r:Int) (l.length:Int)≤(l.length:Int):=by omega
  have hsp:=fun tg=>zwL tg (l.drop (min r l.length)) (n:=(gAt a to split r).width.toNat) (by omega)
  rw [show (((gAt a to split r).width.toNat:Nat):Int)=(gAt a to split r).width by omega] at hsp
  have hc:=zCc l (r:Int) (by omega)
  rw [Int.toNat_natCast] at hc
  have hfill:=zDD (gAt a to split r) (r:Int) .lent (ps:=fP (rowL (gAt a to split r) l r)) (by simp [rowL]; omega) (by intro x hx; obtain ⟨y,hy,rfl⟩:=List.mem_map.1 hx; exact zy1 _ _ y hy)
  rw [ztE,zrG hfine (zvg hk l r)] at hfill
  have hFr:=hF r (by omega)
  have hdm:=fun k hk'=>zpG (gs:=gAt a to split) hFr hr hk k hk'
  have hnx:zi7 (gAt a to split) l n (r+1)=(zi7 (gAt a to split) l n r).dmgs (36+(r:Int)) (zcW (gAt a to split r) r (rowL (gAt a to split r) l r)) (min (gAt a to split r).d.toNat n):=rfl;rw [hnx];generalize zi7 (gAt a to split) l n r=B at*;generalize gAt a to split r=g at*;have hrl:=zl0 g (r:Int) (rowL g l r);unfold rowL at hfill
  simp (disch:=first | omega | assumption | (simp; done) | fail) only [zcw,zaR,zgP,zaa,zz1,zpC,zac,zbg,hc,hsp,zbn,zdq,Nat.zero_add,Nat.le_refl,hfill,solD,zdp,zr9,zck]
  have hxs:secL (l.drop (min r l.length)) g.width.toNat=rowL g l r:=rfl;rw [hxs]
  have h0:∀ k,k≤min g.d.toNat n→P0 U0 T0.length idx (B.dmgs (36+(r:Int)) (zcW g r (rowL g l r)) k)=P0 U0 T0.length idx B:=by
   intro k hk'
   induction k with
   | zero=>rfl
   | succ k ih=>
    rw [←ih (by omega)]
    show P0 U0 T0.length idx ((B.dmgs (36+(r:Int)) (zcW g r (rowL g l r)) k).damage _ _ _).2=_;unfold Ben.damage;split<;>rfl
  let s2:Nat→(Int×Int×List D×(Int×Int×Int×PUnit)×(Int×Int×Int×PUnit)×D×Int×List D×Bool×Int×PUnit)×List (List D)×List (List D)×PUnit:=fun k=>
   ((split,(n:Int),intL l,(a.l,a.d,a.c,PUnit.unit),(to.l,to.d,to.c,PUnit.unit),.h kB T0.length 0,(r:Int),pL (fP (zcW g r (rowL g l r))),true,(k:Int),PUnit.unit),P0 U0 T0.length idx B,P1 U1 idx (B.dmgs (36+(r:Int)) (zcW g r (rowL g l r)) k),PUnit.unit)
  show zb7 _ (s2 0)=_
  refine zca s2 (min g.d.toNat n) (by omega) ?_ ?_
  ·intro again2 k hk';dsimp only [s2]
   obtain ⟨i1,i2,i3,i4,i5⟩:=hdm k (by omega)
   have hA:=hat _ i1.ok i2
   have hg:(pL (fP (zcW g r (rowL g l r))))[k]? =some (.sl .fresh (uL (atR g r (rowL g l r) k))):=zcP (zwI (ziF (by omega)))
   have hb:=zDt hA (by omega) (k:Int) (a:=36+(r:Int)) (by intro w hw; rw [(i1.dk _).2] at hw; cases hw) .fresh (atR g r (rowL g l r) k)
   rw [h0 k (by omega)] at hb
   have hgd:(zcW g r (rowL g l r)).getD k []=atR g r (rowL g l r) k:=zsd (by omega)
   have h1:(k:Int) < ((g.d.toNat:Nat):Int):=by omega
   have h2:(k:Int) < (n:Int):=by omega
   have h3:k < g.d.toNat:=by omega
   simp (disch:=first | omega | assumption | (simp; done) | fail) [hrl,h1,h2,h3,zag hg,hb,zal]
   rw [←hgd]; rfl
  ·intro again2;dsimp only [s2];rw [h0 _ (Nat.le_refl _)]
   by_cases h1:min g.d.toNat n < g.d.toNat
   ·have h2:¬ ((min g.d.toNat n:Nat):Int) < (n:Int):=by omega
    have h1':((min g.d.toNat n:Nat):Int) < ((g.d.toNat:Nat):Int):=by omega
    simp (disch:=first | omega | assumption | (simp; done) | fail) only [zcw,za5,hrl,zwG,zB1,zaa,Nat.zero_add,Nat.le_refl,zus,zsm,zwf]
    rfl
   ·have h1':¬ ((min g.d.toNat n:Nat):Int) < ((g.d.toNat:Nat):Int):=by omega
    simp (disch:=first | omega | assumption | (simp; done) | fail) only [zcw,za5,hrl,zwG,zB1,zaa,Nat.zero_add,Nat.le_refl,zsm,zwf]
    rfl
 ·intro again;dsimp only [st]
  simp (disch:=first | omega | assumption | (simp; done) | fail) only [zcw,zsm,show (D.h kB T0.length 0).free=true from rfl,zaa]
end
theorem zDQ (T0 T1:Tb) {a to:Geo} {split:Int} (hm:mayR a to split=true) {n:Nat} (n0:1≤n) (n8:n≤8) (tg:Tag) (l:List Int):∃ U V idx B,
  zbr [.agg [.int .i64 a.l,.int .i64 a.d,.int .i64 a.c],.agg [.int .i64 to.l,.int .i64 to.d,.int .i64 to.c],.int .i64 split,.int .i64 n,.sl tg (intL l)] [T0,T1]=some (Ans.mk (.h kB T0.length 0) [] [P0 U T0.length idx B,P1 V idx B])∧
  Run U V T0.length idx B n 0∧Still B∧B.w=0∧(∀ (d:Int) (r:Nat),0≤d→d < n→r < 16→d < (gAt a to split r).d→B.cur d (36+r)=atR (gAt a to split r) r (rowL (gAt a to split r) l r) d)∧
  (∀ d x:Int,0≤d→0≤x→x < 52→(x < 36∨(gAt a to split (x - 36).toNat).d≤d)→B.cur d x=zgk):=by
 have hF:=zlF (gs:=gAt a to split) (l:=l) n8 (ztM hm) 16 (by omega)
 have hat0:=zCa T0 T1 n8
 refine ⟨_,_,_,_,both hm n0 n8 tg l,⟨⟨hat0.b,hat0.nd,hat0.lt,?_,hF.still.ok⟩,hF.num,hF.still.down,hF.left,by rw [hF.w]; omega⟩,hF.still,hF.w,fun d r d0 d1 r1 hd=>?_,fun d x d0 x0 x1 hx=>?_⟩
 ·have:=hF.num; unfold Ben.n at this; rw [hat0.len]; simp [Ben.new]; omega
 ·have e:((36:Int)+r - 36).toNat=r:=by omega
  have e2:(36:Int)+r - 36=r:=by omega
  rw [hF.cur d (36+r) d0 (by omega) (by omega),e,e2,if_pos ⟨by omega,by omega,hd,d1⟩]
 ·rw [hF.cur d x d0 x0 x1,if_neg (fun q=>by omega)]
end Wf

namespace Wf
open Go Go.RowKit Go.Proofs
set_option linter.unusedSimpArgs false
set_option linter.unusedVariables false
set_option maxHeartbeats 4000000
theorem zCo (l:List Bool) (i:Nat) (b:Bool):(l.map D.bool).set i (.bool b)=(l.set i b).map D.bool:=by rw [List.map_set]
theorem zCp {n:Nat} {d e:Int} (d0:0≤d) (e0:0≤e):(((List.replicate n true).set d.toNat false)[e.toNat]?).getD false=(decide (e < n) && !decide (e=d)):=by
 rw [List.getElem?_set]
 by_cases h:d.toNat=e.toNat
 ·rw [if_pos h]
  have:e=d:=by omega
  simp [this];split<;>rfl
 ·rw [if_neg h,List.getElem?_replicate]
  have h2:¬ e=d:=by omega
  by_cases h3:e < n
  ·rw [if_pos (by omega)]; simp [h2,h3]
  ·rw [if_neg (by omega)]; simp [h3]
theorem zEi {B:Ben} {n:Nat} (hn:B.n=n) {d e:Int} (d0:0≤d) (e0:0≤e):B.up ((List.replicate n true).set d.toNat false) e=(decide (e < n) && !decide (e=d) && !B.failed e):=by
 unfold Ben.up;rw [zCp d0 e0,hn];cases decide (e < (n:Int))<;>simp
theorem zze {B:Ben} {live:List Bool} {g:Geo} {d:Int} (hg:0≤g.d) (h:∀ e:Int,0≤e→e < g.d→e≠d→B.up live e=true):B.lostN live g≤1:=by
 unfold Ben.lostN
 refine zCd (a:=d.toNat) fun i hi hp=>?_
 by_cases he:(i:Int)=d
 ·omega
 ·rw [h i (by omega) (by omega) he] at hp; cases hp
section
variable {U V:Tb} {b:Nat} {idx:List Nat} {B:Ben} {n:Nat} {K:Int}
theorem Run.rebuild_bad (h:Run U V b idx B n K) (hK:K≤900000) (tg:Tag) {live:List Bool} {d:Int} {a to:Geo} {split:Int} (hb:d < 0∨n≤d∨(live[d.toNat]?).getD false=true∨mayR a to split=false):
  zaO [.h kB b 0,.sl tg (live.map D.bool),.int .i64 d,.agg [.int .i64 a.l,.int .i64 a.d,.int .i64 a.c],.agg [.int .i64 to.l,.int .i64 to.d,.int .i64 to.c],.int .i64 split] [P0 U b idx B,P1 V idx B]=some (Ans.mk (.int .i64 1) [] [P0 U b idx B,P1 V idx B]):=by
 rw [zlG h.at' (by have:=h.w; omega) tg live d a to split]
 unfold Ben.rDisk
 rw [if_pos (by rw [h.num]; exact hb)]
theorem zz8 {live:List Bool} {d:Int} {a to:Geo} {split:Int} (hm:mayR a to split=true) (hz:∀ e x:Int,0≤e→36≤x→x < 52→B.cur e x=zgk)
  (hl:∀ r:Nat,r < 16→B.lostN live (gAt a to split r)≤1):zx0 B live d a to split fun r=>znD (gAt a to split r):=by
 intro r hr hd;have hk:=ztM hm r;have hll:=zeE.1 hk;have:=hl r hr
 exact ⟨zDK hk,by omega,fun e e0 e1 _=>by rw [hz e _ e0 (by omega) (by omega),zFy (zvi hm hr) e0 e1]⟩
end
theorem zFM:zbh []=some (.bool true):=by
 have e:=zkj
 rw [e,zaa (by rfl)]
 unfold zeR
 obtain ⟨U,V,idx,hnew,hB,hS⟩:=zFI [] [] (n:=3) (by omega) (by omega)
 simp only [List.length_nil] at hnew hB
 have hm:mayR ⟨5,3,1⟩ ⟨0,0,0⟩ 0=true:=by decide
 have h1:=hB.rebuild_bad (by omega) .full (live:=[true,true,true]) (d:=1) (a:=⟨5,3,1⟩) (to:=⟨0,0,0⟩) (split:=0) (.inr (.inr (.inl (by decide))))
 have hup:∀ e:Int,0≤e→e < 3→e≠1→(Ben.new 3).up [true,false,true] e=true:=by
  intro e e0 e1 e2
  have:=zEi (B:=Ben.new 3) (n:=3) hB.num (d:=1) (e:=e) (by omega) e0
  refine this.trans ?_;rw [hS.failed]; simp; omega
 obtain ⟨B1,h2,_⟩:=hB.rebuild (by omega) .full (live:=[true,false,true]) (d:=1) (a:=⟨5,3,1⟩) (to:=⟨0,0,0⟩) (split:=0) (by omega) (by omega) (by decide) hm (hS.failed 1) (zz8 hm (fun e x e0 x0 x1=>zxW 3 e (by omega) x1) fun r hr=>by
  have:gAt ⟨5,3,1⟩ ⟨0,0,0⟩ 0 r=⟨5,3,1⟩:=by unfold gAt; rw [if_neg (by omega)]
  rw [this]
  exact zze (d:=1) (by decide) hup)
 have hnew':zby [.int .i64 3] [[],[]]=some (Ans.mk (.tup [.h kB 0 0,.int .i64 0]) [] [P0 U 0 idx (Ben.new 3),P1 V idx (Ben.new 3)]):=hnew;have h1':zaO [.h kB 0 0,.sl .full [.bool true,.bool true,.bool true],.int .i64 1,.agg [.int .i64 5,.int .i64 3,.int .i64 1],.agg [.int .i64 0,.int .i64 0,.int .i64 0],.int .i64 0] [P0 U 0 idx (Ben.new 3),P1 V idx (Ben.new 3)]=some (Ans.mk (.int .i64 1) [] [P0 U 0 idx (Ben.new 3),P1 V idx (Ben.new 3)]):=h1;have h2':zaO [.h kB 0 0,.sl .full [.bool true,.bool false,.bool true],.int .i64 1,.agg [.int .i64 5,.int .i64 3,.int .i64 1],.agg [.int .i64 0,.int .i64 0,.int .i64 0],.int .i64 0] [P0 U 0 idx (Ben.new 3),P1 V idx (Ben.new 3)]=some (Ans.mk (.int .i64 0) [] [P0 U 0 idx B1,P1 V idx B1]):=h2;simp [hnew',h1',h2',zha]
end Wf

namespace Wf
open Go Go.RowKit Go.Proofs
set_option linter.unusedSimpArgs false
set_option linter.unusedVariables false
set_option maxHeartbeats 4000000
section
variable {U V:Tb} {b:Nat} {idx:List Nat} {B:Ben} {n:Nat} {K:Int}
theorem zzf {d a:Int} (hd:B.is d=true) (hdn:B.down=false) (hf:B.failed d=false) (a0:0≤a) (a1:a < 52):B.read d a=(B.cur d a,0):=by
 unfold Ben.read
 rw [may0.2 ⟨hd,hdn⟩,if_neg (by simp)]
 unfold DS.read;rw [zd5 hd] at hf
 rw [zm3.2 ⟨hf,a0,a1⟩,if_neg (by simp)]
 rfl
theorem Run.bread (h:Run U V b idx B n K) (hK:K≤900000) {d a:Int} (d0:0≤d) (d1:d < n) (hf:B.failed d=false) (a0:0≤a) (a1:a < 52):
  zau [.h kB b 0,.int .i64 d,.int .i64 a] [P0 U b idx B,P1 V idx B]=some (Ans.mk (.tup [.sl .own (uL (B.cur d a)),.int .i64 0]) [] []):=by
 have:=zyV h.at' (by have:=h.w; omega) d a
 rw [zzf (h.is d0 d1) h.down hf a0 a1] at this;exact this
theorem Run.pend (h:Run U V b idx B n K) (hK:K≤900000) (hn:∀ e:Int,0≤e→B.nP e=0):zaY [.h kB b 0] [P0 U b idx B,P1 V idx B]=some (Ans.mk (.int .i64 0) [] []):=by
 have:=zBU h.at' (by have:=h.w; omega)
 rw [zwT fun j _=>hn j (by omega)] at this
 exact this
end
end Wf

namespace Wf
open Go Go.RowKit Go.Proofs
set_option linter.unusedSimpArgs false
set_option linter.unusedVariables false
set_option maxHeartbeats 4000000
section
variable {U V:Tb} {b:Nat} {idx:List Nat} {B:Ben} {n:Nat} {K:Int}
theorem Run.swap (h:Run U V b idx B n K) {d:Int} (d0:0≤d) (d1:d < n):∃ B1 V' idx' B2,
  zbf [.h kB b 0,.int .i64 d] [P0 U b idx B,P1 V idx B]=some (Ans.mk (.int .i64 0) [] [P1 V idx B1])∧
  zaX [.h kB b 0,.int .i64 d] [P0 U b idx B,P1 V idx B1]=some (Ans.mk (.int .i64 0) [] [P0 U b idx' B2,P1 V' idx' B2])∧
  Run U V' b idx' B2 n K∧B2.w=B.w∧(∀ e:Int,0≤e→B2.dk e=if e=d then .new else B.dk e)∧∀ b2 idx2 C,Aside U V b idx b2 idx2 C→Aside U V' b idx' b2 idx2 C:=by
 obtain ⟨B1,e1,p1,hB1,f1,b1e,c1⟩:=h.fail d0 d1
 obtain ⟨V2,idx2,B2,e2,hB2,hw2,k2,a2⟩:=hB1.replace d0 d1 (by rw [f1 d d0 d1]; simp)
 rw [←p1] at e2
 refine ⟨B1,V2,idx2,B2,e1,e2,hB2,?_,fun e e0=>?_,a2⟩
 ·rw [hw2,b1e];unfold Ben.fail;rw [if_pos (h.is d0 d1)]; rfl
 ·rw [k2 e e0]
  by_cases he:e=d
  ·rw [if_pos he,if_pos he]
  ·rw [if_neg he,if_neg he,b1e];unfold Ben.fail;rw [if_pos (h.is d0 d1),zeq (h.is d0 d1) e0,if_neg he]
theorem zz9 {a:Int} (a0:0≤a) (a1:a < 52):DS.new.sec a=zgk:=by
 have:=zxW 1 0 a0 a1;unfold Ben.cur at this;rw [zEg] at this;exact this
theorem zAa {B2:Ben} {n:Nat} (hn:B.n=n) (hn2:B2.n=n) {d:Int} (hk:∀ e:Int,0≤e→B2.dk e=if e=d then .new else B.dk e):
  (∀ e:Int,0≤e→e < n→B2.failed e=(!decide (e=d) && B.failed e))∧(∀ e a:Int,0≤e→0≤a→a < 52→B2.cur e a=if e=d then zgk else B.cur e a)∧∀ e:Int,0≤e→B2.nP e=if e=d then 0 else B.nP e:=by
 refine ⟨fun e e0 e1=>?_,fun e a e0 a0 a1=>?_,fun e e0=>?_⟩
 ·rw [zd5 (zc4.2 ⟨e0,by rw [hn2]; exact e1⟩),zd5 (zc4.2 ⟨e0,by rw [hn]; exact e1⟩),hk e e0]
  by_cases he:e=d
  ·rw [if_pos he]; simp [he]; rfl
  ·rw [if_neg he]; simp [he]
 ·unfold Ben.cur;rw [hk e e0];split
  ·exact zz9 a0 a1
  ·rfl
 ·unfold Ben.nP;rw [hk e e0];split<;>rfl
theorem zx1 (h:Still B):Still B.clean:=⟨zqD h.ok,h.down,h.ds⟩
theorem zAb {n:Nat} (h:Still B) (hn:B.n=n) {d a:Int} (d0:0≤d) (d1:d < n) (a0:0≤a) (a1:a < 52):B.read d a=(B.cur d a,0):=
 zzf (zc4.2 ⟨d0,by rw [hn]; exact d1⟩) h.down (h.failed d) a0 a1
end
end Wf

namespace Wf
open Go Go.RowKit Go.Proofs
set_option linter.unusedSimpArgs false
set_option linter.unusedVariables false
set_option maxHeartbeats 4000000
theorem zCq (l:List Bool):D.nohL (l.map D.bool)=true:=by
 induction l with
 | nil=>rfl
 | cons x l ih=>simp [D.nohL,D.noh,ih]
section
variable {B:Ben}
theorem zG4 {a:Act} (h:a.Ok B):a.sec:=by
 cases a with
 | w d a x=>exact h.2.2.2.2
 | f d=>trivial
theorem zDR {as':List Act} (hB:B.Ok) (hd:B.down=false) (hA:∀ a∈as',a.Ok B):∃ pre post,as'=pre++post∧Does B pre∧(∀ e,(runA as' B).2.dk e=(does B pre).dk e)∧Nx (nW as') B (runA as' B).2∧Like B (runA as' B).2∧
  (((runA as' B).1=0∧(runA as' B).2.down=false∧post=[]∧runA as' B=(0,does B as'))∨((runA as' B).1=6∧(runA as' B).2.down=true)):=by
 obtain ⟨hx,hL⟩:=zCk as' hB fun a ha=>zG4 (hA a ha)
 by_cases hl:B.left < 0∨(nW as':Int)≤B.left
 ·have hD:=zjn as' hB hd hA hl
  exact ⟨as',[],by simp,hD,fun e=>by rw [hD.run],hx,hL,.inl ⟨by rw [hD.run],by rw [hD.run]; exact hD.down.trans hd,rfl,hD.run⟩⟩
 ·obtain ⟨pre,d,a,x,post,e1,e2,e3,e4,e5⟩:=zBE as' hB hd hA (by omega) (by omega)
  exact ⟨pre,.w d a x::post,e1,e3,fun e=>by rw [e5]; rfl,hx,hL,.inr ⟨by rw [e5],by rw [e5]; rfl⟩⟩
theorem zAc {a:Act} (h:a.Ok B) {e:Int} (e0:0≤e):∀ w∈((B.does1 a).dk e).pend,w∈(B.dk e).pend∨a=.w e w.1 w.2:=by
 cases a with
 | w d a x=>
  intro w hw;have hw:w∈(((B.junk ((B.dk d).write a x).2).less.setD d ((B.dk d).add a x)).dk e).pend:=hw
  rw [zeq (by simpa using h.1) e0] at hw
  by_cases he:e=d
  ·subst he;rw [if_pos rfl] at hw;rcases List.mem_append.1 hw with hw | hw
   ·exact .inl hw
   ·rw [List.mem_singleton.1 hw]; exact .inr rfl
  ·rw [if_neg he] at hw; exact .inl hw
 | f d=>
  intro w hw;have hw:w∈((B.setD d (B.dk d).flushed).dk e).pend:=hw;rw [zeq h.1 e0] at hw
  by_cases he:e=d
  ·subst he; rw [if_pos rfl] at hw; cases hw
  ·rw [if_neg he] at hw; exact .inl hw
theorem zwY {e:Int} (e0:0≤e):∀ (l:List Act) {B:Ben},B.Ok→(∀ a∈l,a.Ok B)→∀ w∈((does B l).dk e).pend,w∈(B.dk e).pend∨Act.w e w.1 w.2∈l
 | [],B,_,_,w,hw=>.inl hw
 | a::l,B,hB,h1,w,hw=>by
  have ha:=h1 a (List.mem_cons_self ..)
  rcases zwY e0 l (zhQ hB ha).ok (fun c hc=>zlW hB ha (h1 c (List.mem_cons_of_mem _ hc))) w hw with hw | hw
  ·rcases zAc ha e0 w hw with hw | hw
   ·exact .inl hw
   ·exact .inr (by rw [←hw]; exact List.mem_cons_self ..)
  ·exact .inr (List.mem_cons_of_mem _ hw)
theorem zsg:∀ (p:List (Int×List Int)) (a:Int) (b:List Int),(∀ w∈p,w.1≠a)→look p a b=b
 | [],a,b,_=>rfl
 | w::p,a,b,h=>by
  show look p a (if w.1=a then w.2 else b)=b
  rw [if_neg (h w (List.mem_cons_self ..))]
  exact zsg p a b fun v hv=>h v (List.mem_cons_of_mem _ hv)
theorem zDS {s:DS} (h:s.Ok) (l:List Bool) {a:Int} (a0:0≤a) (a1:a < 52):(s.crash l).sec a=look (kept s.pend l) a (s.base a.toNat):=by
 have:=zrz h (a:=a.toNat) (by omega) (kept s.pend l) fun w hw=>h.pend w (zhP _ _ w hw)
 unfold DS.sec;show look [] a ((s.puts (kept s.pend l)).base a.toNat)=_
 rw [zoa,this,show ((a.toNat:Nat):Int)=a by omega]
theorem zAd (hB:B.Ok) (ks:List Bool) {e a:Int} (he:B.is e=true) (a0:0≤a) (a1:a < 52) (h:∀ w∈(B.dk e).pend,w.1≠a):(B.crash ks).cur e a=B.cur e a:=by
 obtain ⟨l,hl⟩:=(zi8 hB ks).2.2.2.2 e he;unfold Ben.cur
 rw [hl,zDS (zh2 hB e).1 l a0 a1,zsg _ _ _ fun w hw=>h w (zhP _ _ w hw)]
 unfold DS.sec;rw [zsg _ _ _ h]
theorem zAe (hB:B.Ok) (ks:List Bool) (e:Int):(B.crash ks).failed e=B.failed e:=by
 obtain ⟨h1,h2,h3,h4,h5⟩:=zi8 hB ks
 have hi:(B.crash ks).is e=B.is e:=by unfold Ben.is; rw [h1.n]
 cases he:B.is e
 ·unfold Ben.failed; rw [hi,he]; rfl
 ·obtain ⟨l,hl⟩:=h5 e he;rw [zd5 (hi.trans he),zd5 he,hl,zwX (zh2 hB e).1]
theorem zDT (hB:B.Ok) (ks:List Bool) {e:Int} (he:B.is e=true):(B.crash ks).nP e=0:=by
 obtain ⟨l,hl⟩:=(zi8 hB ks).2.2.2.2 e he;unfold Ben.nP; rw [hl]; rfl
theorem zDU (hB:B.Ok) {n:Int} (hn:n≤1000000000):(B.limit n).Ok:=⟨hB.w0,by show max (-1) n≤1000000000; omega,hB.small,hB.ds⟩
end
section
variable {T0 T1:Tb} {b:Nat} {idx:List Nat} {B:Ben}
theorem zG5 (h:At T0 T1 b idx B):zba [.h kB b 0] [P0 T0 b idx B]=some (Ans.mk (.bool B.down) [] []):=by
 rw [zjP];unfold zeB;simp [zag h.get0,bRow]
theorem At.limit (h:At T0 T1 b idx B) {n:Int} (hn:n≤1000000000):At T0 T1 b idx (B.limit n):=⟨h.b,h.nd,h.lt,h.len,zDU h.ok hn⟩
theorem At.crash (h:At T0 T1 b idx B) (ks:List Bool):At T0 T1 b idx (B.crash ks):=h.nx (zi8 h.ok ks).1
end
end Wf

namespace Wf
open Go Go.RowKit Go.Proofs
set_option linter.unusedSimpArgs false
set_option linter.unusedVariables false
set_option maxHeartbeats 4000000
@[simp] theorem zCt {R:Type} (a b c:D) (f:LfT [.any,.any,.any]→Option R):zat [.any,.any,.any] [a,b,c] f=f (a,b,c,()):=by rw [zdf,zdf,zdf,zd4]
section
variable {B:Ben} {live:List Bool}
end
end Wf

namespace Wf
open Go Go.RowKit Go.Proofs
set_option linter.unusedVariables false
set_option maxRecDepth 100000
def zdS:Ann:={ loops:=[(4,[.dead,.dead,.dead,.dead,.dead,.dead,.dead,.dead,.dead,.dead,.dead,.dead,.dead,.dead,.dead,.dead,.box true [(.int .i64),(.int .i64),(.int .i64)],.ptr 3840,.ptr 3840,.dead,.dead,.val (.cell (.int .i64))]),(6,[.dead,.dead,.dead,.dead,.dead,.dead,.dead,.dead,.dead,.dead,.dead,.dead,.dead,.dead,.dead,.dead,.box true [(.int .i64),(.int .i64),(.int .i64)],.ptr 3840,.ptr 3840,.dead,.dead,.val (.cell (.int .i64)),.val (.cell (.int .i64))])],ks:=[(3840,true),(7649,true)] }
noncomputable def zda:List D→Option D:=denT Try.prog (zay [(ID.wattleplay_Pair,(.pure [0,0] zbD)),(ID.wattlekeep_Within,(.pure [0] zab)),(ID.wattlelaw16_Both,(.st [] [0] [(3840,true),(7649,true)] zbr)),(ID.bench_Bench_Clone,(.st [] [0] [(3840,true),(7649,true)] za8)),(ID.wattleplay_Live,(.pure [1] zbE)),(ID.bench_Bench_Fail,(.st [] [0] [(3840,false),(7649,true)] zbf)),(ID.bench_Bench_Replace,(.st [] [0] [(3840,true),(7649,true)] zaX)),(ID.bench_counter_Limit,(.st [] [] [(3840,true)] zbc)),(ID.rebuild_Disk,(.st [] [0] [(3840,true),(7649,true)] zaO)),(ID.bench_counter_Down,(.st [] [0] [(3840,false)] zba)),(ID.bench_Bench_Crash,(.st [] [] [(3840,true),(7649,true)] zbj)),(ID.bench_Bench_Pending,(.st [] [0] [(3840,false),(7649,false)] zaY)),(ID.bench_Bench_Read,(.st [] [1,0] [(3840,false),(7649,false)] zau)),(ID.wattlekeep_Same_byte,(.pure [0] zaU)),(ID.wattlelaw16_wakes,(.pure [0] zbh))]) zdS [0] ID.wattlelaw16_RebuildQuiet
theorem sound_wattlelaw16_RebuildQuiet:za9 Try.prog ID.wattlelaw16_RebuildQuiet (.pure [0] zda):=ztl (zaz [zmb,zc0,zlx,zku,zmd,zlm,ziX,zi1,ziQ,zjO,zkw,ziZ,zga,zic,zki]) zbz ⟨Try.f11,by kernel_rfl,by kernel_rfl,by kernel_rfl⟩
noncomputable def zdb (zbD:List D→Option D) (zab:List D→Option D) (zbr:List D→List Tb→Option Ans) (za8:List D→List Tb→Option Ans) (zbE:List D→Option D) (zbf:List D→List Tb→Option Ans) (zaX:List D→List Tb→Option Ans) (zbc:List D→List Tb→Option Ans) (zaO:List D→List Tb→Option Ans) (zba:List D→List Tb→Option Ans) (zbj:List D→List Tb→Option Ans) (zaY:List D→List Tb→Option Ans) (zau:List D→List Tb→Option Ans) (zaU:List D→Option D) (zbh:List D→Option D) (a0:Int) (a1:Int) (a2:Int) (a3:List D) (a4:Int) (a5:Int) (a6:List D):Option D:=
 zaq (zbD [D.int IntKind.i64 a0,D.int IntKind.i64 a1]) fun r1=>
 zdG r1 fun ts2=>
 zat ([Lf.any,Lf.any]) ts2 fun c3=>
 asAgg c3.fst fun cs4=>
 zat ([Lf.int IntKind.i64,Lf.int IntKind.i64,Lf.int IntKind.i64]) cs4 fun c5=>
 asAgg c3.snd.fst fun cs6=>
 zat ([Lf.int IntKind.i64,Lf.int IntKind.i64,Lf.int IntKind.i64]) cs6 fun c7=>
 zaq (zab [D.int IntKind.i64 a2,D.int IntKind.i64 (17:Int)]) fun r8=>
 asI IntKind.i64 r8 fun i9=>
 zaq (zbr [D.agg [D.int IntKind.i64 c5.fst,D.int IntKind.i64 c5.snd.fst,D.int IntKind.i64 c5.snd.snd.fst],D.agg [D.int IntKind.i64 c7.fst,D.int IntKind.i64 c7.snd.fst,D.int IntKind.i64 c7.snd.snd.fst],D.int IntKind.i64 i9,D.int IntKind.i64 c7.snd.fst,D.sl Tag.lent a3] [[],[]]) fun r10=>
 nilK r10.outs <|
 zb8 r10.tbs fun c11 q12=>
 zb8 q12 fun c13 q14=>
 nilK q14 <|
 sif (zha r10.r=true) <|
 znV r10.r fun b15=>
 brK b15
  (some (D.bool false))
  (zaq (za8 [r10.r] [c11,c13]) fun r16=>
  nilK r16.outs <|
  zb8 r16.tbs fun c17 q18=>
  zb8 q18 fun c19 q20=>
  nilK q20 <|
  sif (zha r16.r=true) <|
  znV r16.r fun b21=>
  brK b21
   (some (D.bool false))
   (zaq (zab [D.int IntKind.i64 a4,D.int IntKind.i64 c7.snd.fst]) fun r22=>
   asI IntKind.i64 r22 fun i23=>
   zaq (zbE [D.int IntKind.i64 (0:Int),D.int IntKind.i64 c7.snd.fst]) fun r24=>
   za0 r24 fun l25=>
   sif ((0:Int)≤i23) <|
   sif (Int.toNat i23 < List.length l25) <|
   getK l25 ((0:Nat)+Int.toNat i23) fun d26=>
   sif (D.isAgg d26=false) <|
   zaq (zbf [r10.r,D.int IntKind.i64 i23] [c17,c19]) fun r27=>
   nilK r27.outs <|
   zb8 r27.tbs fun c28 q29=>
   nilK q29 <|
   asI IntKind.i64 r27.r fun i30=>
   zaq (zaX [r10.r,D.int IntKind.i64 i23] [c17,c28]) fun r31=>
   nilK r31.outs <|
   zb8 r31.tbs fun c32 q33=>
   zb8 q33 fun c34 q35=>
   nilK q35 <|
   asI IntKind.i64 r31.r fun i36=>
   asH ((3840:Nat)) r10.r fun h37=>
   zaq (zab [D.int IntKind.i64 a5,D.int IntKind.i64 (20:Int)]) fun r38=>
   asI IntKind.i64 r38 fun i39=>
   zaq (zbc [D.h (3840:Nat) h37 (0:Nat),D.int IntKind.i64 i39] [c32]) fun r40=>
   nilK r40.outs <|
   zb8 r40.tbs fun c41 q42=>
   nilK q42 <|
   zdG r40.r fun ts43=>
   nilK ts43 <|
   sif ((0:Nat)+List.length l25≤List.length (List.set l25 ((0:Nat)+Int.toNat i23) (D.bool false))) <|
   zaq (zaO [r10.r,D.sl Tag.lent (cut (0:Nat) (List.length l25) (List.set l25 ((0:Nat)+Int.toNat i23) (D.bool false))),D.int IntKind.i64 i23,D.agg [D.int IntKind.i64 c5.fst,D.int IntKind.i64 c5.snd.fst,D.int IntKind.i64 c5.snd.snd.fst],D.agg [D.int IntKind.i64 c7.fst,D.int IntKind.i64 c7.snd.fst,D.int IntKind.i64 c7.snd.snd.fst],D.int IntKind.i64 i9] [c41,c34]) fun r44=>
   nilK r44.outs <|
   zb8 r44.tbs fun c45 q46=>
   zb8 q46 fun c47 q48=>
   nilK q48 <|
   asI IntKind.i64 r44.r fun i49=>
   brK (i49 != (0:Int))
    (brK (i49 != (6:Int))
     (some (D.bool false))
     (asH ((3840:Nat)) r10.r fun h50=>
     zaq (zba [D.h (3840:Nat) h50 (0:Nat)] [c45]) fun r51=>
     nilK r51.outs <|
     nilK r51.tbs <|
     asB r51.r fun b52=>
     brK ((i49 == (6:Int)) != b52)
      (some (D.bool false))
      (zaq (zbj [r10.r,D.sl Tag.lent a6] [c45,c47]) fun r53=>
      nilK r53.outs <|
      zb8 r53.tbs fun c54 q55=>
      zb8 q55 fun c56 q57=>
      nilK q57 <|
      zdG r53.r fun ts58=>
      nilK ts58 <|
      sif ((0:Nat)+List.length l25≤List.length (List.set l25 ((0:Nat)+Int.toNat i23) (D.bool false))) <|
      zaq (zaO [r10.r,D.sl Tag.lent (cut (0:Nat) (List.length l25) (List.set l25 ((0:Nat)+Int.toNat i23) (D.bool false))),D.int IntKind.i64 i23,D.agg [D.int IntKind.i64 c5.fst,D.int IntKind.i64 c5.snd.fst,D.int IntKind.i64 c5.snd.snd.fst],D.agg [D.int IntKind.i64 c7.fst,D.int IntKind.i64 c7.snd.fst,D.int IntKind.i64 c7.snd.snd.fst],D.int IntKind.i64 i9] [c54,c56]) fun r59=>
      nilK r59.outs <|
      zb8 r59.tbs fun c60 q61=>
      zb8 q61 fun c62 q63=>
      nilK q63 <|
      asI IntKind.i64 r59.r fun i64=>
      brK (i64 != (0:Int))
       (some (D.bool false))
       (zaq (zaY [r10.r] [c60,c62]) fun r65=>
       nilK r65.outs <|
       nilK r65.tbs <|
       asI IntKind.i64 r65.r fun i66=>
       brK (i66 != (0:Int))
        (some (D.bool false))
        (zb7 (α:=((Int×Int×Int×PUnit)×D×D×Int×PUnit)×List (List D)×List (List D)×PUnit) (fun again67 (((i68,(i69,(i70,_))),(x71,(x72,(i73,_)))),(U74,(U75,_)))=>
         brK (decide (i73 < i69))
          (zb7 (α:=((Int×Int×Int×PUnit)×D×D×Int×Int×PUnit)×List (List D)×List (List D)×PUnit) (fun again76 (((i77,(i78,(i79,_))),(x80,(x81,(i82,(i83,_))))),(U84,(U85,_)))=>
           brK (decide (i83 < (52:Int)))
            (zaq (zau [x80,D.int IntKind.i64 i82,D.int IntKind.i64 i83] [U84,U85]) fun r86=>
            nilK r86.outs <|
            nilK r86.tbs <|
            zdG r86.r fun ts87=>
            zat ([Lf.any,Lf.any]) ts87 fun c88=>
            za0 c88.fst fun l89=>
            asI IntKind.i64 c88.snd.fst fun i90=>
            zaq (zau [x81,D.int IntKind.i64 i82,D.int IntKind.i64 i83] [U84,U85]) fun r91=>
            nilK r91.outs <|
            nilK r91.tbs <|
            zdG r91.r fun ts92=>
            zat ([Lf.any,Lf.any]) ts92 fun c93=>
            za0 c93.fst fun l94=>
            asI IntKind.i64 c93.snd.fst fun i95=>
            brK (i90 != (0:Int))
             (some (D.bool false))
             (brK (i95 != (0:Int))
              (some (D.bool false))
              (sif ((0:Nat)+List.length l89≤List.length l89) <|
              sif ((0:Nat)+List.length l94≤List.length l94) <|
              zaq (zaU [D.sl Tag.lent (cut (0:Nat) (List.length l89) l89),D.sl Tag.lent (cut (0:Nat) (List.length l94) l94)]) fun r96=>
              asB r96 fun b97=>
              brK (!b97)
               (some (D.bool false))
               (letN (IntKind.wrap IntKind.i64 (i83+(1:Int))) fun n98=>
               again76 ((((i77,i78,i79,PUnit.unit),x80,x81,i82,n98,PUnit.unit),U84,U85,PUnit.unit))))))
            (letN (IntKind.wrap IntKind.i64 (i82+(1:Int))) fun n99=>
            again67 ((((i77,i78,i79,PUnit.unit),x80,x81,n99,PUnit.unit),U84,U85,PUnit.unit))))
           ((((i68,i69,i70,PUnit.unit),x71,x72,i73,(0:Int),PUnit.unit),U74,U75,PUnit.unit)))
          (zaq (zbh []) fun r100=>
          asB r100 fun b101=>
          some (D.bool b101)))
         ((((c7.fst,c7.snd.fst,c7.snd.snd.fst,PUnit.unit),r10.r,r16.r,(0:Int),PUnit.unit),c60,c62,PUnit.unit)))))))
    (asH ((3840:Nat)) r10.r fun h102=>
    zaq (zba [D.h (3840:Nat) h102 (0:Nat)] [c45]) fun r103=>
    nilK r103.outs <|
    nilK r103.tbs <|
    asB r103.r fun b104=>
    brK ((i49 == (6:Int)) != b104)
     (some (D.bool false))
     (zaq (zbj [r10.r,D.sl Tag.lent a6] [c45,c47]) fun r105=>
     nilK r105.outs <|
     zb8 r105.tbs fun c106 q107=>
     zb8 q107 fun c108 q109=>
     nilK q109 <|
     zdG r105.r fun ts110=>
     nilK ts110 <|
     sif ((0:Nat)+List.length l25≤List.length (List.set l25 ((0:Nat)+Int.toNat i23) (D.bool false))) <|
     zaq (zaO [r10.r,D.sl Tag.lent (cut (0:Nat) (List.length l25) (List.set l25 ((0:Nat)+Int.toNat i23) (D.bool false))),D.int IntKind.i64 i23,D.agg [D.int IntKind.i64 c5.fst,D.int IntKind.i64 c5.snd.fst,D.int IntKind.i64 c5.snd.snd.fst],D.agg [D.int IntKind.i64 c7.fst,D.int IntKind.i64 c7.snd.fst,D.int IntKind.i64 c7.snd.snd.fst],D.int IntKind.i64 i9] [c106,c108]) fun r111=>
     nilK r111.outs <|
     zb8 r111.tbs fun c112 q113=>
     zb8 q113 fun c114 q115=>
     nilK q115 <|
     asI IntKind.i64 r111.r fun i116=>
     brK (i116 != (0:Int))
      (some (D.bool false))
      (zaq (zaY [r10.r] [c112,c114]) fun r117=>
      nilK r117.outs <|
      nilK r117.tbs <|
      asI IntKind.i64 r117.r fun i118=>
      brK (i118 != (0:Int))
       (some (D.bool false))
       (zb7 (α:=((Int×Int×Int×PUnit)×D×D×Int×PUnit)×List (List D)×List (List D)×PUnit) (fun again119 (((i120,(i121,(i122,_))),(x123,(x124,(i125,_)))),(U126,(U127,_)))=>
        brK (decide (i125 < i121))
         (zb7 (α:=((Int×Int×Int×PUnit)×D×D×Int×Int×PUnit)×List (List D)×List (List D)×PUnit) (fun again128 (((i129,(i130,(i131,_))),(x132,(x133,(i134,(i135,_))))),(U136,(U137,_)))=>
          brK (decide (i135 < (52:Int)))
           (zaq (zau [x132,D.int IntKind.i64 i134,D.int IntKind.i64 i135] [U136,U137]) fun r138=>
           nilK r138.outs <|
           nilK r138.tbs <|
           zdG r138.r fun ts139=>
           zat ([Lf.any,Lf.any]) ts139 fun c140=>
           za0 c140.fst fun l141=>
           asI IntKind.i64 c140.snd.fst fun i142=>
           zaq (zau [x133,D.int IntKind.i64 i134,D.int IntKind.i64 i135] [U136,U137]) fun r143=>
           nilK r143.outs <|
           nilK r143.tbs <|
           zdG r143.r fun ts144=>
           zat ([Lf.any,Lf.any]) ts144 fun c145=>
           za0 c145.fst fun l146=>
           asI IntKind.i64 c145.snd.fst fun i147=>
           brK (i142 != (0:Int))
            (some (D.bool false))
            (brK (i147 != (0:Int))
             (some (D.bool false))
             (sif ((0:Nat)+List.length l141≤List.length l141) <|
             sif ((0:Nat)+List.length l146≤List.length l146) <|
             zaq (zaU [D.sl Tag.lent (cut (0:Nat) (List.length l141) l141),D.sl Tag.lent (cut (0:Nat) (List.length l146) l146)]) fun r148=>
             asB r148 fun b149=>
             brK (!b149)
              (some (D.bool false))
              (letN (IntKind.wrap IntKind.i64 (i135+(1:Int))) fun n150=>
              again128 ((((i129,i130,i131,PUnit.unit),x132,x133,i134,n150,PUnit.unit),U136,U137,PUnit.unit))))))
           (letN (IntKind.wrap IntKind.i64 (i134+(1:Int))) fun n151=>
           again119 ((((i129,i130,i131,PUnit.unit),x132,x133,n151,PUnit.unit),U136,U137,PUnit.unit))))
          ((((i120,i121,i122,PUnit.unit),x123,x124,i125,(0:Int),PUnit.unit),U126,U127,PUnit.unit)))
         (zaq (zbh []) fun r152=>
         asB r152 fun b153=>
         some (D.bool b153)))
        ((((c7.fst,c7.snd.fst,c7.snd.snd.fst,PUnit.unit),r10.r,r16.r,(0:Int),PUnit.unit),c112,c114,PUnit.unit))))))))
theorem zhD (zbD:List D→Option D) (zab:List D→Option D) (zbr:List D→List Tb→Option Ans) (za8:List D→List Tb→Option Ans) (zbE:List D→Option D) (zbf:List D→List Tb→Option Ans) (zaX:List D→List Tb→Option Ans) (zbc:List D→List Tb→Option Ans) (zaO:List D→List Tb→Option Ans) (zba:List D→List Tb→Option Ans) (zbj:List D→List Tb→Option Ans) (zaY:List D→List Tb→Option Ans) (zau:List D→List Tb→Option Ans) (zaU:List D→Option D) (zbh:List D→Option D) (tga3:Tag) (tga6:Tag) (a0:Int) (a1:Int) (a2:Int) (a3:List D) (a4:Int) (a5:Int) (a6:List D):denT Try.prog (zay [(ID.wattleplay_Pair,(.pure [0,0] zbD)),(ID.wattlekeep_Within,(.pure [0] zab)),(ID.wattlelaw16_Both,(.st [] [0] [(3840,true),(7649,true)] zbr)),(ID.bench_Bench_Clone,(.st [] [0] [(3840,true),(7649,true)] za8)),(ID.wattleplay_Live,(.pure [1] zbE)),(ID.bench_Bench_Fail,(.st [] [0] [(3840,false),(7649,true)] zbf)),(ID.bench_Bench_Replace,(.st [] [0] [(3840,true),(7649,true)] zaX)),(ID.bench_counter_Limit,(.st [] [] [(3840,true)] zbc)),(ID.rebuild_Disk,(.st [] [0] [(3840,true),(7649,true)] zaO)),(ID.bench_counter_Down,(.st [] [0] [(3840,false)] zba)),(ID.bench_Bench_Crash,(.st [] [] [(3840,true),(7649,true)] zbj)),(ID.bench_Bench_Pending,(.st [] [0] [(3840,false),(7649,false)] zaY)),(ID.bench_Bench_Read,(.st [] [1,0] [(3840,false),(7649,false)] zau)),(ID.wattlekeep_Same_byte,(.pure [0] zaU)),(ID.wattlelaw16_wakes,(.pure [0] zbh))]) zdS [0] ID.wattlelaw16_RebuildQuiet [.int .i64 a0,.int .i64 a1,.int .i64 a2,.sl tga3 a3,.int .i64 a4,.int .i64 a5,.sl tga6 a6]=sif (D.nohL [.int .i64 a0,.int .i64 a1,.int .i64 a2,.sl tga3 a3,.int .i64 a4,.int .i64 a5,.sl tga6 a6]=true) (zdb zbD zab zbr za8 zbE zbf zaX zbc zaO zba zbj zaY zau zaU zbh a0 a1 a2 (D.lentL a3) a4 a5 (D.lentL a6)):=by kernel_rfl
theorem zgr (tga3:Tag) (tga6:Tag) (a0:Int) (a1:Int) (a2:Int) (a3:List D) (a4:Int) (a5:Int) (a6:List D):zda [.int .i64 a0,.int .i64 a1,.int .i64 a2,.sl tga3 a3,.int .i64 a4,.int .i64 a5,.sl tga6 a6]=sif (D.nohL [.int .i64 a0,.int .i64 a1,.int .i64 a2,.sl tga3 a3,.int .i64 a4,.int .i64 a5,.sl tga6 a6]=true) (zdb zbD zab zbr za8 zbE zbf zaX zbc zaO zba zbj zaY zau zaU zbh a0 a1 a2 (D.lentL a3) a4 a5 (D.lentL a6)):=zhD zbD zab zbr za8 zbE zbf zaX zbc zaO zba zbj zaY zau zaU zbh tga3 tga6 a0 a1 a2 a3 a4 a5 a6
end Wf

namespace Wf
open Go Go.RowKit Go.Proofs
set_option linter.unusedSimpArgs false
set_option linter.unusedVariables false
set_option maxHeartbeats 4000000
theorem rebuild_quiet (a0 a1 a2:Int) (l:List Int) (a4 a5:Int) (ks:List Bool) (tg tg':Tag):zda [.int .i64 a0,.int .i64 a1,.int .i64 a2,.sl tg (intL l),.int .i64 a4,.int .i64 a5,.sl tg' (ks.map D.bool)]=some (.bool true):=by
 rw [zgr,zrr,ze2]
 rw [zaa (by simp [D.nohL,D.noh,zCW,zCq])]
 unfold zdb;obtain ⟨x,y,hpair,hcan,hx5,hy8⟩:=zBM a0 a1;obtain ⟨k1,k2,k3,k4,k5,k6⟩:=zrE.1 hcan;have hxd:=ok_d k1;have hyd:=ok_d k2;have hxl:=zeE.1 k1;have hyl:=zeE.1 k2
 have hs:=zpy a2 17 (by omega) (by omega)
 have s0:=Int.emod_nonneg a2 (show (17:Int)≠0 by omega)
 have s1:=Int.emod_lt_of_pos a2 (show (0:Int) < 17 by omega)
 generalize a2 % 17=sp at*
 have hm:mayR x y sp=true:=zzb.2 ⟨k1,s0,by omega,.inr k2⟩
 obtain ⟨n,hn⟩:∃ n:Nat,(n:Int)=y.d:=⟨y.d.toNat,by omega⟩
 obtain ⟨U,V,idx,B,hboth,hB,hS,hw0,hc0,hz0⟩:=zDQ [] [] hm (n:=n) (by omega) (by omega) .lent l
 simp only [List.length_nil] at hboth hB;rw [hn] at hboth hc0
 obtain ⟨U1,V1,b2,j2,hcl,hB1,hA1⟩:=hB.clone (by omega)
 have hS1:=zx1 hS
 have hd:=zpy a4 y.d (by omega) (by omega)
 have d0:=Int.emod_nonneg a4 (show y.d≠0 by omega)
 have d1:=Int.emod_lt_of_pos a4 (show (0:Int) < y.d by omega)
 generalize a4 % y.d=d at*
 have hd':d < (n:Int):=by omega
 have hlive:=zDL (d:=n) (by omega) (by omega)
 rw [hn] at hlive
 have hli:=zpy a5 20 (by omega) (by omega)
 have l0:=Int.emod_nonneg a5 (show (20:Int)≠0 by omega)
 have l1:=Int.emod_lt_of_pos a5 (show (0:Int) < 20 by omega)
 generalize a5 % 20=m at*
 have hgd:∀ r,(gAt x y sp r).d≤y.d∧0≤(gAt x y sp r).d:=by
  intro r;unfold gAt;split<;>constructor<;>omega
 obtain ⟨Bf,V2,i2,B2,e1,e2,hB2,hw2,kd,a2'⟩:=hB1.swap d0 hd';obtain ⟨f2,c2,p2⟩:=zAa hB1.num hB2.num kd;have hA2:=a2' _ _ _ hA1
 have hf2:∀ e:Int,0≤e→e < n→B2.failed e=false:=by
  intro e e0 e1;rw [f2 e e0 e1,hS1.failed]; simp
 have hpn:∀ e:Int,0≤e→(B2.dk e).pend=[]:=by
  intro e e0;rw [kd e e0];split
  ·rfl
  ·exact (hS1.dk e).2
 have hset:=zCo (List.replicate n true) d.toNat false
 have hgl:=zwW (ks:=List.replicate n true) (k:=d.toNat) (by simp; omega)
 have hl0:(((List.replicate n true).set d.toNat false)[d.toNat]?).getD false=false:=by rw [zCp d0 d0]; simp
 have hup:∀ (C:Ben) (e:Int),C.n=n→(∀ e:Int,0≤e→e < n→C.failed e=false)→0≤e→e < n→e≠d→C.up ((List.replicate n true).set d.toNat false) e=true:=by
  intro C e hC hf e0 e1 he;rw [zEi hC d0 e0,hf e e0 e1];simp [e1,he]
 have n1:((List.replicate n true).set d.toNat false).length=n:=by simp
 have n0:(List.replicate n true).length=n:=by simp
 have hll:(((List.replicate n true).map D.bool)).length=n:=by simp
 have hcut:cut 0 ((List.replicate n true).map D.bool).length (((List.replicate n true).set d.toNat false).map D.bool)=((List.replicate n true).set d.toNat false).map D.bool:=znB (by simp)
 have hcut2:∀ l:List D,cut 0 l.length l=l:=fun l=>znB rfl
 have hlm:(((List.replicate n true).set d.toNat false).map D.bool).length=((List.replicate n true).map D.bool).length:=by simp
 generalize (List.replicate n true).set d.toNat false=live at*;generalize List.replicate n true=L0 at*
 let dat:Nat→List (List Int):=fun r=>rowL (gAt x y sp r) l r
 have stand:∀ C:Ben,C.n=n→(∀ e:Int,0≤e→e < n→C.failed e=false)→(∀ e a:Int,0≤e→e < n→e≠d→0≤a→a < 52→C.cur e a=B.cur e a)→zx0 C live d x y sp dat:=by
  intro C hC hf hc r hr hdr;have hok:=zeE.1 (ztM hm r)
  refine ⟨zvg (ztM hm r) l r,?_,fun e e0 e1 hu=>?_⟩
  ·have:=zze (B:=C) (live:=live) (g:=gAt x y sp r) (d:=d) (hgd r).2 fun e e0 e1 he=>hup C e hC hf e0 (by have:=(hgd r).1; omega) he
   omega
  ·have hne:e≠d:=by rintro rfl; rw [zEh hl0] at hu; cases hu
   have:=(hgd r).1
   rw [hc e _ e0 (by omega) hne (by omega) (by omega)]
   exact hc0 e r e0 (by omega) hr e1
 have hB3:At U1 V2 0 i2 (B2.limit m):=hB2.at'.limit (by omega)
 have hS3:zx0 (B2.limit m) live d x y sp dat:=stand _ hB2.num hf2 fun e a e0 e1 he a0 a1=>by
  show B2.cur e a=_;rw [c2 e a e0 a0 a1,if_neg he]; rfl
 have hok3:=zzc (B:=B2.limit m) d0 (by show d < B2.n; rw [hB2.num]; exact hd') hm (hf2 d d0 hd') hS3
 have hacts:=ztN (B:=B2.limit m) hB3.ok hB2.down d0 (by show d < B2.n; rw [hB2.num]; exact hd') hl0 hm (hf2 d d0 hd') hS3
 have hr3:=zlG hB3 (by show B2.w≤999000; have:=hB2.w; omega) .lent live d x y sp
 obtain ⟨pre,post,q1,q2,q3,q4,q5,q6⟩:=zDR hB3.ok hB2.down hok3;rw [←hacts] at q3 q4 q5 q6;have hnw:=zzd (dat:=dat) (d:=d) (a:=x) (to:=y) (split:=sp);have hlim:P0 U1 0 i2 (B2.limit m)=P0 U1 0 i2 (B2.limit m):=rfl;generalize hY:(B2.limit m).rDisk live d x y sp=Y at*
 have hpre:∀ a∈pre,a∈zjS dat d x y sp 16++[.f d]:=fun a ha=>by rw [q1]; exact List.mem_append_left _ ha
 have hYat:At U1 V2 0 i2 Y.2:=hB3.nx q4
 have hYw:Y.2.w≤16:=by
  have:=q4.w;have hh:(B2.limit m).w=B2.w:=rfl;have:=hB2.w;omega
 have hcr:=zFK hYat (by omega) .lent ks
 obtain ⟨r1,r2,r3,r4,r5⟩:=zi8 hYat.ok ks
 have hB4:Run U1 V2 0 i2 (Y.2.crash ks) n 16:=⟨hYat.crash ks,by rw [r1.n,q5.1]; exact hB2.num,r4,r3,by omega⟩
 have hf4:∀ e:Int,0≤e→e < n→(Y.2.crash ks).failed e=false:=by
  intro e e0 e1;rw [zAe hYat.ok,q5.2]; exact hf2 e e0 e1
 have hYis:∀ e:Int,0≤e→e < n→Y.2.is e=true:=fun e e0 e1=>zc4.2 ⟨e0,by rw [q5.1]; show e < B2.n; rw [hB2.num]; exact e1⟩
 have hquiet:∀ e a:Int,0≤e→e < n→0≤a→a < 52→(e≠d∨a < 36∨(gAt x y sp (a - 36).toNat).d≤d)→(Y.2.crash ks).cur e a=B2.cur e a:=by
  intro e a e0 e1 a0 a1 hh
  have hno:∀ c∈pre,c.at e a=false:=by
   intro c hc;rcases List.mem_append.1 (hpre c hc) with hc | hc
   ·obtain ⟨r,hr,hdr,rfl⟩:=zse hc
    unfold Act.at
    dsimp only;rw [decide_eq_false_iff_not]
    rintro ⟨h1,h2⟩
    rcases hh with hh | hh | hh
    ·exact hh h1.symm
    ·omega
    ·rw [show (a - 36).toNat=r by omega] at hh; omega
   ·rw [List.mem_singleton.1 hc]; rfl
  rw [zAd hYat.ok ks (hYis e e0 e1) a0 a1 (fun w hw hwa=>?_)]
  ·unfold Ben.cur;rw [q3 e];have:=q2.cur e a e0 a0 a1;rw [zlX hno] at this;exact this
  ·rw [q3 e] at hw
   rcases zwY e0 pre hB3.ok (fun c hc=>hok3 c (hpre c hc)) w hw with hw | hw
   ·have:((B2.limit m).dk e).pend=[]:=hpn e e0;rw [this] at hw; cases hw
   ·have:=hno _ hw;unfold Act.at at this;dsimp only at this;rw [decide_eq_false_iff_not] at this;exact this ⟨rfl,hwa⟩
 have hS4:zx0 (Y.2.crash ks) live d x y sp dat:=stand _ hB4.num hf4 fun e a e0 e1 he a0 a1=>by
  rw [hquiet e a e0 e1 a0 a1 (.inl he),c2 e a e0 a0 a1,if_neg he]; rfl
 obtain ⟨B5,e5,hB5,f5,c5,p5⟩:=hB4.rebuild (by omega) .lent d0 hd' hl0 hm (hf4 d d0 hd') hS4
 have hpd:=hB5.pend (by omega) (fun e e0=>by
  rw [p5 e e0];split
  ·rfl
  ·by_cases he:e < n
   ·exact zDT hYat.ok ks (hYis e e0 he)
   ·unfold Ben.nP Ben.dk
    rw [List.getElem?_eq_none (by have:=hB4.num; unfold Ben.n at this; omega)]; rfl)
 have hc5:∀ e a:Int,0≤e→e < n→0≤a→a < 52→B5.cur e a=B.cur e a:=by
  intro e a e0 e1 a0 a1;rw [c5 e a e0 a0 a1]
  by_cases hc:e=d∧36≤a∧d < (gAt x y sp (a - 36).toNat).d
  ·rw [if_pos hc];obtain ⟨rfl,h36,hlt⟩:=hc
   have:=hc0 e (a - 36).toNat d0 d1 (by omega) hlt
   rw [show (36:Int)+((a - 36).toNat:Nat)=a by omega,show (((a - 36).toNat:Nat):Int)=a - 36 by omega] at this
   exact this.symm
  ·rw [if_neg hc,hquiet e a e0 e1 a0 a1 (by omega),c2 e a e0 a0 a1]
   by_cases he:e=d
   ·subst he
    rw [if_pos rfl,hz0 e a e0 a0 a1 (by omega)]
   ·rw [if_neg he]; rfl
 have hww:=zFM
 let s3:Nat→((Int×Int×Int×PUnit)×D×D×Int×PUnit)×List (List D)×List (List D)×PUnit:=fun e=>
  (((y.l,y.d,y.c,PUnit.unit),.h kB 0 0,.h kB b2 0,(e:Int),PUnit.unit),P0 U1 0 i2 B5,P1 V2 i2 B5,PUnit.unit)
 let s4:Nat→Nat→((Int×Int×Int×PUnit)×D×D×Int×Int×PUnit)×List (List D)×List (List D)×PUnit:=fun e a=>
  (((y.l,y.d,y.c,PUnit.unit),.h kB 0 0,.h kB b2 0,(e:Int),(a:Int),PUnit.unit),P0 U1 0 i2 B5,P1 V2 i2 B5,PUnit.unit)
 have step:∀ (e a:Nat),(e:Int) < n→a < 52→zau [.h kB 0 0,.int .i64 e,.int .i64 a] [P0 U1 0 i2 B5,P1 V2 i2 B5]=some (Ans.mk (.tup [.sl .own (uL (B.cur e a)),.int .i64 0]) [] [])∧
   zau [.h kB b2 0,.int .i64 e,.int .i64 a] [P0 U1 0 i2 B5,P1 V2 i2 B5]=some (Ans.mk (.tup [.sl .own (uL (B.cur e a)),.int .i64 0]) [] [])∧
   zaU [.sl .lent (uL (B.cur e a)),.sl .lent (uL (B.cur e a))]=some (.bool true):=by
  intro e a he ha;refine ⟨?_,?_,?_⟩
  ·have:=hB5.bread (by omega) (d:=(e:Int)) (a:=(a:Int)) (by omega) he ((f5 e).trans (hf4 e (by omega) he)) (by omega) (by omega)
   rw [hc5 e a (by omega) he (by omega) (by omega)] at this
   exact this
  ·have:=hA2.read (by show B.w≤1000000; omega) B5 (e:Int) (a:Int)
   rw [zAb hS1 hB1.num (by omega) he (by omega) (by omega)] at this
   exact this
  ·rw [zBN .lent .lent _ _ (by rw [(zCi hB.at'.ok (by omega) (by omega)).len]; decide),decide_eq_true rfl]
 have hH:∀ f:Nat→Option D,asH 3840 (D.h kB 0 0) f=f 0:=fun f=>zGj ..
 have hlimb:=zFp hB2.at' m;have hdown:=zG5 hYat;have hP1:P1 V2 i2 (B2.limit m)=P1 V2 i2 B2:=rfl;rw [hP1] at hr3;have hxD:x.D=.agg [.int .i64 x.l,.int .i64 x.d,.int .i64 x.c]:=rfl;have hyD:y.D=.agg [.int .i64 y.l,.int .i64 y.d,.int .i64 y.c]:=rfl;rw [hxD,hyD] at hpair;rw [hpair,zac,zdp,zgj,zkO,zdx,zdx,zdx,zd4,zkO,zdx,zdx,zdx,zd4];dsimp only;rw [hs,zac,zbg,hboth,zac];dsimp only
 rw [zaW,zbP,zbP,zaW,zaa (by rfl),zxo,zar,hcl,zac]
 dsimp only
 rw [zaW,zbP,zbP,zaW,zaa (by rfl),zxo,zar,hd,zac,zbg,hlive,zac,zbn,zaa d0,zaa (by omega),Nat.zero_add,zag hgl,zaa (by rfl),e1,zac]
 dsimp only;rw [zaW,zbP,zaW,zbg,e2,zac];dsimp only;rw [zaW,zbP,zbP,zaW,zbg,hH,hli,zac,zbg,hlimb,zac];dsimp only
 rw [zaW,zbP,zaW,zdp,zaW,hset,zaa (by omega),hcut,hr3,zac]
 dsimp only;rw [zaW,zbP,zbP,zaW,zbg];rcases q6 with ⟨y1,y2,_,_⟩ | ⟨y1,y2⟩
 ·rw [y1,zjV rfl,hH,hdown,zac];dsimp only
  rw [zaW,zaW,zck,y2,show (((0:Int) == 6) != false)=false from rfl,zar,hcr,zac]
  dsimp only
  rw [zaW,zbP,zbP,zaW,zdp,zaW,zaa (by omega),e5,zac]
  dsimp only;rw [zaW,zbP,zbP,zaW,zbg,zjV rfl,hpd,zac];dsimp only;rw [zaW,zaW,zbg,zjV rfl];show zb7 _ (s3 0)=_
  refine zca s3 n (by omega) ?_ ?_
  ·intro again e he;dsimp only [s3]
   rw [zus (by omega)]
   show zb7 _ (s4 e 0)=_
   refine zca (s4 e) 52 (by omega) ?_ ?_
   ·intro again2 a ha;dsimp only [s4]
    obtain ⟨t1,t2,t3⟩:=step e a (by omega) ha
    rw [zus (by omega),t1,zac]
    dsimp only;rw [zaW,zaW,zdp,zgj];dsimp only;rw [zbn,zbg,t2,zac];dsimp only;rw [zaW,zaW,zdp,zgj];dsimp only
    rw [zbn,zbg,zjV rfl,zjV rfl,zaa (by omega),zaa (by omega),hcut2,t3,zac,zck,Bool.not_true,zar,zaR,zal (by omega) (by omega)]
    rfl
   ·intro again2;dsimp only [s4]
    rw [zsm (by omega),zaR,zal (by omega) (by omega)]
    rfl
  ·intro again;dsimp only [s3]
   rw [zsm (by omega),hww,zac,zck]
 ·rw [y1,zGs (by decide),zjV rfl,hH,hdown,zac]
  dsimp only
  rw [zaW,zaW,zck,y2,show (((6:Int) == 6) != true)=false from rfl,zar,hcr,zac]
  dsimp only
  rw [zaW,zbP,zbP,zaW,zdp,zaW,zaa (by omega),e5,zac]
  dsimp only;rw [zaW,zbP,zbP,zaW,zbg,zjV rfl,hpd,zac];dsimp only;rw [zaW,zaW,zbg,zjV rfl];show zb7 _ (s3 0)=_
  refine zca s3 n (by omega) ?_ ?_
  ·intro again e he;dsimp only [s3]
   rw [zus (by omega)]
   show zb7 _ (s4 e 0)=_
   refine zca (s4 e) 52 (by omega) ?_ ?_
   ·intro again2 a ha;dsimp only [s4]
    obtain ⟨t1,t2,t3⟩:=step e a (by omega) ha
    rw [zus (by omega),t1,zac]
    dsimp only;rw [zaW,zaW,zdp,zgj];dsimp only;rw [zbn,zbg,t2,zac];dsimp only;rw [zaW,zaW,zdp,zgj];dsimp only
    rw [zbn,zbg,zjV rfl,zjV rfl,zaa (by omega),zaa (by omega),hcut2,t3,zac,zck,Bool.not_true,zar,zaR,zal (by omega) (by omega)]
    rfl
   ·intro again2;dsimp only [s4]
    rw [zsm (by omega),zaR,zal (by omega) (by omega)]
    rfl
  ·intro again;dsimp only [s3]
   rw [zsm (by omega),hww,zac,zck]
end Wf

