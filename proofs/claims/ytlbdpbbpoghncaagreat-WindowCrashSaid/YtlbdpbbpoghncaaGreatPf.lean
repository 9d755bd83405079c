/- A part of the proof: lemmas that the law's row leans on. -/
import Derived.Test.YtlbdpbbpoghncaaGreatPe
import Derived.Test.YtlbdpbbpoghncaaGreatPd
set_option linter.all false
namespace Wf
open Go Go.RowKit Go.Proofs
set_option linter.unusedSimpArgs false
set_option linter.unusedVariables false
theorem gf_double (a:Int):zbf [.int .u8 a]=some (.int .u8 (dbl a)):=by
 rw [zuq];unfold zox dbl
 by_cases h:128≤a
 ·simp [h]
 ·simp [h]
theorem zI7 (a b:Int) (h0:0≤b) (h1:b < 256):ze3 [.int .u8 a,.int .u8 b]=some (.int .u8 (mul8 a b)):=by
 rw [zzN];unfold zwK
 refine zgd (fun x=>x.1.2.1.toNat) (fun _=>some (D.int .u8 (mul8 a b)))
  (fun x=>∃ (n:Nat) (a' b' o:Int),0≤b'∧b' < 2 ^ n∧n≤8∧mulA n a' b' o=mul8 a b∧x=((a',b',o,PUnit.unit),PUnit.unit)) ?_ ⟨8,a,b,0,h0,h1,Nat.le_refl _,rfl,rfl⟩ (by simp; omega)
 rintro again _ ⟨n,a',b',o,p0,p1,p2,p3,rfl⟩ hag
 dsimp only
 by_cases hb:b' > 0
 ·have hd:decide (b' > 0)=true:=by simp [hb]
  rw [hd,za0,zaH]
  cases n with
  | zero=>simp at p1; omega
  | succ n=>
   have hdiv:b'.fdiv 2=b' / 2:=Int.fdiv_eq_ediv_of_nonneg _ (by omega)
   have hlt:b' / 2 < 2 ^ n:=by
    have:(2:Int) ^ (n+1)=2 ^ n*2:=Int.pow_succ ..;omega
   by_cases hone:bits .and .u8 b' 1=1
   ·have hbo:(bits .and .u8 b' 1 == 1)=true:=by simp [hone]
    rw [hbo,za0,zaH,gf_double,zac,zaY,zaH,hdiv]
    refine hag _ ⟨n,_,_,_,by omega,hlt,by omega,?_,rfl⟩ (by simp; omega)
    rw [←p3]
    show _=mulA n (dbl a') (b' / 2) (if bits .and .u8 b' 1=1 then xor8 o a' else o)
    rw [if_pos hone]
   ·have hbo:(bits .and .u8 b' 1 == 1)=false:=by simp [hone]
    rw [hbo,zat,gf_double,zac,zaY,zaH,hdiv]
    refine hag _ ⟨n,_,_,_,by omega,hlt,by omega,?_,rfl⟩ (by simp; omega)
    rw [←p3]
    show _=mulA n (dbl a') (b' / 2) (if bits .and .u8 b' 1=1 then xor8 o a' else o)
    rw [if_neg hone]
 ·have hd:decide (b' > 0)=false:=by simp [hb]
  have:b'=0:=by omega
  subst this;rw [hd,zat,←p3,zDl]
theorem zFH {a b:List Int} {k:Nat} {x y:Int} (h1:a[k]? =some x) (h2:b[k]? =some y):(List.zipWith xor8 a b).take (k+1)=(List.zipWith xor8 a b).take k++[xor8 x y]:=by
 rw [List.take_add_one];congr 1;simp [List.getElem?_zipWith,h1,h2]
theorem ziJ (t t':Tag) (a b:List Int) (ha:a.length < 100000):zaP [.sl t (uL a),.sl t' (uL b)]=some (.sl .own (uL (addL a b))):=by
 rw [zwL,zdr,zdr];unfold zqF addL
 by_cases hl:a.length=b.length
 ·have hb:(((uL a).length:Int) != ((uL b).length:Int))=false:=by simp [hl]
  rw [hb,zat,if_pos hl]
  let st:Nat→(List D×List D×List D×Int×Int×PUnit)×PUnit:=fun k=>((uL b,uL ((List.zipWith xor8 a b).take k),uL a,(a.length:Int),(k:Int),PUnit.unit),PUnit.unit)
  have hst:st 0=((uL b,[],uL a,((uL a).length:Int),0,PUnit.unit),PUnit.unit):=by simp [st,uL]
  rw [←hst];refine zcw st a.length ha ?_ ?_
  ·intro again k hk;dsimp only [st];have h1:a[k]? =some a[k]:=List.getElem?_eq_getElem hk
   have h2:b[k]? =some (b[k]'(by omega)):=List.getElem?_eq_getElem (by omega)
   have hd:decide ((k:Int) < (a.length:Int))=true:=by simp; omega
   rw [hd,za0,zab (by omega),zaj (by simpa using zkN h1),zaY,zab (by omega),zaj (by simpa using zkN h2),zaY,zaH,zab (by simp; omega),zab (by rfl),zaH,zah (by omega) (by omega),zab (by simp)]
   rw [zFH h1 h2,←zDv];rfl
  ·intro again;dsimp only [st]
   have hd:decide ((a.length:Int) < (a.length:Int))=false:=by simp
   have ht:(List.zipWith xor8 a b).take a.length=List.zipWith xor8 a b:=List.take_of_length_le (by simp; omega)
   rw [hd,zat,zab (by rfl),zab (zhR _),ht]
 ·have hb:(((uL a).length:Int) != ((uL b).length:Int))=true:=by simp; omega
  rw [hb,za0,if_neg hl];rfl
theorem zjW (t:Tag) (a:List Int) (ha:a.length < 100000) {f:Int} (h0:0≤f) (h1:f < 256):zaL [.sl t (uL a),.int .u8 f]=some (.sl .own (uL (a.map (mul8 · f)))):=by
 rw [ztF,zdr];unfold zml
 let st:Nat→(Int×List D×List D×Int×Int×PUnit)×PUnit:=fun k=>((f,uL ((a.map (mul8 · f)).take k),uL a,(a.length:Int),(k:Int),PUnit.unit),PUnit.unit)
 have hst:st 0=((f,[],uL a,((uL a).length:Int),0,PUnit.unit),PUnit.unit):=by simp [st,uL]
 rw [←hst];refine zcw st a.length ha ?_ ?_
 ·intro again k hk;dsimp only [st];have h2:a[k]? =some a[k]:=List.getElem?_eq_getElem hk
  have hd:decide ((k:Int) < (a.length:Int))=true:=by simp; omega
  rw [hd,za0,zab (by omega),zaj (by simpa using zkN h2),zaY,zI7 _ _ h0 h1,zac,zaY,zab (by simp; omega),zab (by rfl),zaH,zah (by omega) (by omega),zab (by simp)]
  have:(a.map (mul8 · f)).take (k+1)=(a.map (mul8 · f)).take k++[mul8 a[k] f]:=by rw [List.take_add_one]; simp [h2]
  rw [this,←zDv];rfl
 ·intro again;dsimp only [st]
  have hd:decide ((a.length:Int) < (a.length:Int))=false:=by simp
  have ht:(a.map (mul8 · f)).take a.length=a.map (mul8 · f):=List.take_of_length_le (by simp)
  rw [hd,zat,zab (by rfl),zab (zhR _),ht]
abbrev Part:=Tag×List Int
def pL (ps:List Part):List D:=ps.map fun x=>.sl x.1 (uL x.2)
def zb6 (t:Tag) (l:List Int):Tag:=match t,l with
 | .nil,_=>.nil
 | .nn,[]=>.nn
 | .nul,[]=>.nul
 | _,_=>.lent
theorem zHI (t:Tag) (l:List Int):D.lent (.sl t (uL l))=.sl (zb6 t l) (uL l):=by
 have h:=zdr l
 cases l with
 | nil=>cases t<;>rfl
 | cons n l=>
  have e:uL (n::l)=.int .u8 n::uL l:=rfl;rw [e] at h ⊢;cases t<;>simp only [D.lent,h,zb6]<;>simp [D.lentL,D.lent,zdr]
theorem zdl (ps:List Part):D.lentL (pL ps)=pL (ps.map fun x=>(zb6 x.1 x.2,x.2)):=by
 unfold pL;rw [zsI,List.map_map,List.map_map];apply List.map_congr_left;intro x _;exact zHI x.1 x.2
@[simp] theorem ztU (ps:List Part):(pL ps).length=ps.length:=by simp [pL]
theorem zcW {ps:List Part} {k:Nat} {x:Part} (h:ps[k]? =some x):(pL ps)[k]? =some (.sl x.1 (uL x.2)):=by simp [pL,h]
theorem zDX (ps:List Part) (t:Tag) (l:List Int):pL ps++[.sl t (uL l)]=pL (ps++[(t,l)]):=by simp [pL]
theorem zru (ps:List Part) (i:Nat) (t:Tag) (l:List Int):(pL ps).set i (.sl t (uL l))=pL (ps.set i (t,l)):=by simp [pL,List.map_set]
def Part.free (x:Part):Bool:=x.1=.fresh || x.1=.full || x.1=.nil
theorem zmF {ps:List Part} (h:∀ x∈ps,x.free=true):(pL ps).all D.free=true:=by
 unfold pL;rw [List.all_map,List.all_eq_true];intro x hx;have:=h x hx;obtain ⟨t,l⟩:=x
 cases t<;>first | (exact zr5 l) | (exact absurd this (by simp [Part.free]))
theorem zyH (k:Nat) (hk:k < 255):za4 [.int .i64 k]=some (.int .u8 (pow8 k)):=by
 rw [ztG];unfold zr7
 have e1:Int.tmod (k:Int) 255=k:=by rw [Int.tmod_eq_emod_of_nonneg (by omega),Int.emod_eq_of_lt (by omega) (by omega)]
 have e2:Int.tmod ((k:Int)+255) 255=k:=by
  rw [Int.tmod_eq_emod_of_nonneg (by omega),Int.add_emod_right,Int.emod_eq_of_lt (by omega) (by omega)]
 rw [zaH,e1,zaH,zah (by omega) (by omega),zaH,e2]
 refine zcw (fun j=>((pow8 j,(k:Int),(j:Int),PUnit.unit),PUnit.unit)) k (by omega) ?_ ?_
 ·intro again j hj;dsimp only
  have hd:decide ((j:Int) < (k:Int))=true:=by simp; omega
  rw [hd,za0,gf_double,zac,zaY,zaH,zah (by omega) (by omega)]
  rfl
 ·intro again
  have hd:decide ((k:Int) < (k:Int))=false:=by simp
  dsimp only;rw [hd,zat]
theorem zDY (tg:Tag) {ps:List Part} {n:Nat} (hn:n < 100000) (h0:0 < ps.length) (h1:ps.length < 255) (h:∀ x∈ps,x.2.length=n):
  zch [.sl tg (pL ps)]=some (.sl .own (uL (sumP n (ps.map (·.2))))):=by
 rw [zzO,zdl];unfold zwP
 have hsum:∀ {qs:List Part},0 < qs.length→qs.length < 255→(∀ x∈qs,x.2.length=n)→∀ tg,zb7 [.sl tg (pL qs),.fn ID.synd_P_1 [] []]=some (.sl .own (uL (sumP n (qs.map (·.2))))):=by
  intro qs h0 h1 h tg;rw [zrL,zdl]
  have hl':∀ x∈(qs.map fun x=>(zb6 x.1 x.2,x.2)),x.2.length=n:=by
   intro x hx; obtain ⟨y,hy,rfl⟩:=List.mem_map.1 hx; exact h y hy
  have hm:(qs.map fun x=>(zb6 x.1 x.2,x.2)).map (·.2)=qs.map (·.2):=by rw [List.map_map]; rfl
  rw [←hm]
  have hlen:(qs.map fun x=>(zb6 x.1 x.2,x.2)).length=qs.length:=by simp
  rw [←hlen] at h0 h1
  generalize (qs.map fun x=>(zb6 x.1 x.2,x.2))=rs at*
  clear hm hlen h qs;unfold zkx
  have hb:(((pL rs).length:Int) == 0)=false:=by simp; intro e; rw [e] at h0; simp at h0
  obtain ⟨x0,hx0⟩:∃ x,rs[0]? =some x:=⟨_,List.getElem?_eq_getElem h0⟩;have hx0l:=hl' x0 (List.mem_of_getElem? hx0)
  rw [hb,zat,zaj (zcW hx0),zdY,zab (by rfl),zdM,hx0l,zab (by omega),zab (by omega),zab (by simp),Int.toNat_natCast,ztb]
  have hls:∀ l∈rs.map (·.2),l.length=n:=by intro l hl; obtain ⟨y,hy,rfl⟩:=List.mem_map.1 hl; exact hl' y hy
  let st:Nat→(List D×List D×Int×Int×PUnit)×PUnit:=fun k=>((uL (sumK (fun _=>1) n (rs.map (·.2)) k),pL rs,((pL rs).length:Int),(k:Int),PUnit.unit),PUnit.unit)
  have hst:st 0=((uL (List.replicate n 0),pL rs,((pL rs).length:Int),0,PUnit.unit),PUnit.unit):=rfl;rw [←hst]
  refine zcw st rs.length (by omega) ?_ ?_
  ·intro again k hk;dsimp only [st];obtain ⟨x,hx⟩:∃ x,rs[k]? =some x:=⟨_,List.getElem?_eq_getElem hk⟩;have hxl:=hl' x (List.mem_of_getElem? hx)
   have hd:decide ((k:Int) < ((pL rs).length:Int))=true:=by simp; omega
   have hsl:=zpf (f:=fun _=>1) hls (k:=k) (by simp; omega)
   rw [hd,za0,zab (by omega),zaj (by simpa using zcW hx),zdY,zab (by omega)]
   have hb2:(((uL x.2).length:Int) != ((uL (sumK (fun _=>1) n (rs.map (·.2)) k)).length:Int))=false:=by simp [hxl,hsl]
   have hone:zbU [.int .i64 (k:Int)]=some (.int .u8 1):=by rw [zwM]; rfl
   rw [hb2,zat,hone,zac,zaY,zjW _ _ (by omega) (by omega) (by omega),zac,zbw,zab (by omega),zab (by omega),zdL,zdL,ziJ _ _ _ _ (by omega),zac,zbw,zaH,
    zah (by omega) (by omega),zab (by rfl)]
   have he:addL (sumK (fun _=>1) n (rs.map (·.2)) k) (x.2.map (mul8 · 1))=sumK (fun _=>1) n (rs.map (·.2)) (k+1):=by
    unfold addL
    rw [if_pos (by simp [hsl,hxl])]
    have:(rs.map (·.2)).getD k []=x.2:=by simp [List.getD_eq_getElem?_getD,hx]
    simp only [sumK,this]
   rw [he];rfl
  ·intro again;dsimp only [st]
   have hd:decide ((rs.length:Int) < ((pL rs).length:Int))=false:=by simp
   rw [hd,zat,zab (by rfl),zab (zhR _)]
   simp [sumP]
 rw [hsum (by simpa using h0) (by simpa using h1) (by intro x hx; obtain ⟨y,hy,rfl⟩:=List.mem_map.1 hx; exact h y hy),zac,zbw,zab (by rfl),zab (zhR _),List.map_map]
 rfl
theorem zDZ (tg:Tag) {ps:List Part} {n:Nat} (hn:n < 100000) (h0:0 < ps.length) (h1:ps.length < 255) (h:∀ x∈ps,x.2.length=n):
  zci [.sl tg (pL ps)]=some (.sl .own (uL (sumQ n (ps.map (·.2))))):=by
 rw [zzP,zdl];unfold zwQ
 have hsum:∀ {qs:List Part},0 < qs.length→qs.length < 255→(∀ x∈qs,x.2.length=n)→∀ tg,zb7 [.sl tg (pL qs),.fn ID.gf_Pow [] []]=some (.sl .own (uL (sumQ n (qs.map (·.2))))):=by
  intro qs h0 h1 h tg;rw [zrM,zdl]
  have hl':∀ x∈(qs.map fun x=>(zb6 x.1 x.2,x.2)),x.2.length=n:=by
   intro x hx; obtain ⟨y,hy,rfl⟩:=List.mem_map.1 hx; exact h y hy
  have hm:(qs.map fun x=>(zb6 x.1 x.2,x.2)).map (·.2)=qs.map (·.2):=by rw [List.map_map]; rfl
  rw [←hm]
  have hlen:(qs.map fun x=>(zb6 x.1 x.2,x.2)).length=qs.length:=by simp
  rw [←hlen] at h0 h1
  generalize (qs.map fun x=>(zb6 x.1 x.2,x.2))=rs at*
  clear hm hlen h qs;unfold zky
  have hb:(((pL rs).length:Int) == 0)=false:=by simp; intro e; rw [e] at h0; simp at h0
  obtain ⟨x0,hx0⟩:∃ x,rs[0]? =some x:=⟨_,List.getElem?_eq_getElem h0⟩;have hx0l:=hl' x0 (List.mem_of_getElem? hx0)
  rw [hb,zat,zaj (zcW hx0),zdY,zab (by rfl),zdM,hx0l,zab (by omega),zab (by omega),zab (by simp),Int.toNat_natCast,ztb]
  have hls:∀ l∈rs.map (·.2),l.length=n:=by intro l hl; obtain ⟨y,hy,rfl⟩:=List.mem_map.1 hl; exact hl' y hy
  let st:Nat→(List D×List D×Int×Int×PUnit)×PUnit:=fun k=>((uL (sumK pow8 n (rs.map (·.2)) k),pL rs,((pL rs).length:Int),(k:Int),PUnit.unit),PUnit.unit)
  have hst:st 0=((uL (List.replicate n 0),pL rs,((pL rs).length:Int),0,PUnit.unit),PUnit.unit):=rfl;rw [←hst]
  refine zcw st rs.length (by omega) ?_ ?_
  ·intro again k hk;dsimp only [st];obtain ⟨x,hx⟩:∃ x,rs[k]? =some x:=⟨_,List.getElem?_eq_getElem hk⟩;have hxl:=hl' x (List.mem_of_getElem? hx)
   have hd:decide ((k:Int) < ((pL rs).length:Int))=true:=by simp; omega
   have hsl:=zpf (f:=pow8) hls (k:=k) (by simp; omega)
   rw [hd,za0,zab (by omega),zaj (by simpa using zcW hx),zdY,zab (by omega)]
   have hb2:(((uL x.2).length:Int) != ((uL (sumK pow8 n (rs.map (·.2)) k)).length:Int))=false:=by simp [hxl,hsl]
   have hone:=zyH k (by omega)
   rw [hb2,zat,hone,zac,zaY,zjW _ _ (by omega) (zjp k).1 (zjp k).2,zac,zbw,zab (by omega),zab (by omega),zdL,zdL,ziJ _ _ _ _ (by omega),zac,zbw,zaH,
    zah (by omega) (by omega),zab (by rfl)]
   have he:addL (sumK pow8 n (rs.map (·.2)) k) (x.2.map (mul8 · (pow8 k)))=sumK pow8 n (rs.map (·.2)) (k+1):=by
    unfold addL
    rw [if_pos (by simp [hsl,hxl])]
    have:(rs.map (·.2)).getD k []=x.2:=by simp [List.getD_eq_getElem?_getD,hx]
    simp only [sumK,this]
   rw [he];rfl
  ·intro again;dsimp only [st]
   have hd:decide ((rs.length:Int) < ((pL rs).length:Int))=false:=by simp
   rw [hd,zat,zab (by rfl),zab (zhR _)]
   simp [sumQ]
 rw [hsum (by simpa using h0) (by simpa using h1) (by intro x hx; obtain ⟨y,hy,rfl⟩:=List.mem_map.1 hx; exact h y hy),zac,zbw,zab (by rfl),zab (zhR _),List.map_map]
 rfl
end Wf

namespace Wf
open Go Go.RowKit Go.Proofs
set_option linter.unusedSimpArgs false
set_option linter.unusedVariables false
theorem zD0 (l:List Int):(intL l).all D.free=true:=by simp [intL,D.free]
theorem zD1 (l:List Int) (n:Int):intL l++[.int .i64 n]=intL (l++[n]):=by simp [intL]
def zzZ (ls:List (List Int)) (k:Nat):List Int:=((List.range k).filter fun i=>(ls.getD i []).isEmpty).map Int.ofNat
def miss (ls:List (List Int)):List Int:=zzZ ls ls.length
theorem zB0 (ls:List (List Int)) (k:Nat):zzZ ls (k+1)=zzZ ls k++if (ls.getD k []).isEmpty then [(k:Int)] else []:=by
 unfold zzZ;rw [List.range_succ,List.filter_append,List.map_append];congr 1
 by_cases h:(ls.getD k []).isEmpty=true
 ·rw [if_pos h,List.filter_cons_of_pos (p:=fun i=>(ls.getD i []).isEmpty) h]; rfl
 ·rw [if_neg h,List.filter_cons_of_neg (p:=fun i=>(ls.getD i []).isEmpty) h]; rfl
theorem zD2 (ls:List (List Int)) (k:Nat):(zzZ ls k).length≤k:=by
 unfold zzZ;rw [List.length_map]
 exact Nat.le_trans (List.length_filter_le _ _) (by simp)
theorem zp0 (tg:Tag) (ps:List Part) (hn:ps.length < 100000):zb1 [.sl tg (pL ps)]=some (.sl .own (intL (miss (ps.map (·.2))))):=by
 rw [zpI,zdl]
 have hm:(ps.map fun x=>(zb6 x.1 x.2,x.2)).map (·.2)=ps.map (·.2):=by rw [List.map_map]; rfl
 have hlen:(ps.map fun x=>(zb6 x.1 x.2,x.2)).length=ps.length:=by simp
 rw [←hm];rw [←hlen] at hn
 generalize (ps.map fun x=>(zb6 x.1 x.2,x.2))=rs at*
 unfold zh6
 let st:Nat→(List D×List D×Int×Int×PUnit)×PUnit:=fun k=>((intL (zzZ (rs.map (·.2)) k),pL rs,((pL rs).length:Int),(k:Int),PUnit.unit),PUnit.unit)
 have hst:st 0=(([],pL rs,((pL rs).length:Int),0,PUnit.unit),PUnit.unit):=rfl;rw [←hst]
 refine zcw st rs.length (by omega) ?_ ?_
 ·intro again k hk;dsimp only [st];obtain ⟨x,hx⟩:∃ x,rs[k]? =some x:=⟨_,List.getElem?_eq_getElem hk⟩
  have hd:decide ((k:Int) < ((pL rs).length:Int))=true:=by simp; omega
  have hk2:=zD2 (rs.map (·.2)) k
  have hgd:(rs.map (·.2)).getD k []=x.2:=by simp [List.getD_eq_getElem?_getD,hx]
  rw [hd,za0,zab (by omega),zaj (by simpa using zcW hx),zdY,zB0,hgd]
  by_cases he:x.2=[]
  ·have hb:(((uL x.2).length:Int) == 0)=true:=by simp [he]
   rw [hb,za0,zab (by rw [zgv]; omega),zab (by rfl),zaH,zah (by omega) (by omega),zab (by simp),zD1,he]
   rfl
  ·have hb:(((uL x.2).length:Int) == 0)=false:=by simp; omega
   have hb2:x.2.isEmpty=false:=by simp [he]
   rw [hb,zat,zaH,zah (by omega) (by omega),zab (by rfl),hb2]
   simp
 ·intro again;dsimp only [st]
  have hd:decide ((rs.length:Int) < ((pL rs).length:Int))=false:=by simp
  rw [hd,zat,zab (by rfl),zab (zD0 _)]
  simp [miss]
theorem zJX (t:Tag) (l:List Int) (n:Int):zaG [.sl t (uL l),.at_ (.int .i64 n)]=some (.bool (!fitS n l)):=by
 rw [zqC,zdr];unfold ziV fitS
 cases l with
 | nil=>simp
 | cons a l=>
  have hd:decide (((uL (a::l)).length:Int) > 0)=true:=by simp
  rw [hd,za0];simp [bne];rfl
theorem zuE (tg:Tag) (ps:List Part) (hn:ps.length < 100000) (n:Int):
  ∃ r,zal [.sl tg (pL ps),.fn ID.erase_fits_1 [] [.at_ (.int .i64 n)]]=some r∧∃ i:Int,r=.int .i64 i∧decide (i≥0)= !(ps.all fun x=>fitS n x.2):=by
 rw [zeV,zdl]
 have hm:(ps.all fun x=>fitS n x.2)=((ps.map fun x=>(zb6 x.1 x.2,x.2)).all fun x=>fitS n x.2):=by rw [List.all_map]; rfl
 have hlen:(ps.map fun x=>(zb6 x.1 x.2,x.2)).length=ps.length:=by simp
 rw [hm];rw [←hlen] at hn
 generalize (ps.map fun x=>(zb6 x.1 x.2,x.2))=rs at*
 unfold zcC
 refine zAH (fun a=>(rs.length:Nat) - a.1.2.2.2.1.toNat) (fun r=>∃ i:Int,r=D.int .i64 i∧decide (i≥0)= !(rs.all fun x=>fitS n x.2))
  (fun a=>∃ k:Nat,k≤rs.length∧((rs.take k).all fun x=>fitS n x.2)=true∧a=((pL rs,n,(rs.length:Int),(k:Int),PUnit.unit),PUnit.unit)) ?_ ⟨0,by omega,by simp,by rw [ztU]; rfl⟩ (by simp; omega)
 rintro again _ ⟨k,hk,he,rfl⟩ hag
 dsimp only
 by_cases hkm:k < rs.length
 ·obtain ⟨x,hx⟩:∃ x,rs[k]? =some x:=⟨_,List.getElem?_eq_getElem hkm⟩
  have hd:decide ((k:Int) < (rs.length:Int))=true:=by simp; omega
  rw [hd,za0,zab (by omega),zaj (by simpa using zcW hx),zdY,zJX,zac,zcn]
  cases hf:fitS n x.2
  ·refine ⟨_,rfl,_,rfl,?_⟩
   have:(rs.all fun x=>fitS n x.2)=false:=by
    rw [List.all_eq_false]
    exact ⟨x,List.mem_of_getElem? hx,by simp [hf]⟩
   rw [this];simp
  ·simp only [Bool.not_true,zat,zaH]
   rw [zah (by omega) (by omega)]
   refine hag _ ⟨k+1,by omega,?_,rfl⟩ (by simp; omega)
   rw [List.take_add_one,hx,List.all_append,he];simp [hf]
 ·have hd:decide ((k:Int) < (rs.length:Int))=false:=by simp; omega
  rw [hd,zat];refine ⟨_,rfl,_,rfl,?_⟩
  rw [List.take_of_length_le (by omega)] at he
  rw [he];rfl
theorem erase_fits (tg:Tag) (ps:List Part) (hn:ps.length < 100000) (n:Int):zcu [.int .i64 n,.sl tg (pL ps)]=some (.bool (ps.all fun x=>fitS n x.2)):=by
 rw [ztD,zdl]
 have hm:(ps.all fun x=>fitS n x.2)=((ps.map fun x=>(zb6 x.1 x.2,x.2)).all fun x=>fitS n x.2):=by rw [List.all_map]; rfl
 have hlen:(ps.map fun x=>(zb6 x.1 x.2,x.2)).length=ps.length:=by simp
 rw [hm];rw [←hlen] at hn
 generalize (ps.map fun x=>(zb6 x.1 x.2,x.2))=rs at*
 unfold zmk
 have:zai [.sl .lent (pL rs),.fn ID.erase_fits_1 [] [.at_ (.int .i64 n)]]=some (.bool (!(rs.all fun x=>fitS n x.2))):=by
  rw [zeg,zdl]
  have hm:(rs.all fun x=>fitS n x.2)=((rs.map fun x=>(zb6 x.1 x.2,x.2)).all fun x=>fitS n x.2):=by rw [List.all_map]; rfl
  have hlen:(rs.map fun x=>(zb6 x.1 x.2,x.2)).length=rs.length:=by simp
  rw [hm];rw [←hlen] at hn
  generalize (rs.map fun x=>(zb6 x.1 x.2,x.2))=qs at*
  unfold zcs;obtain ⟨r,h1,i,rfl,h2⟩:=zuE .lent qs hn n;rw [h1,zac,zaY,h2]
 rw [this,zac,zcn,Bool.not_not]
theorem zHJ {l:List D} {n:Nat} (h:l.length=n):cut 0 n l=l:=by subst h; exact zdL l
theorem erase_filled (n:Nat) (hn0:n < 100000) (tg:Tag) (ps:List Part) (hn:ps.length < 100000):zcb [.int .i64 n,.sl tg (pL ps)]=some (.sl .own (pL (ps.map fun x=>(Tag.fresh,zlP n x.2)))):=by
 rw [zqE,zdl]
 have hm:(ps.map fun x=>(Tag.fresh,zlP n x.2))=((ps.map fun x=>(zb6 x.1 x.2,x.2)).map fun x=>(Tag.fresh,zlP n x.2)):=by rw [List.map_map]; rfl
 have hlen:(ps.map fun x=>(zb6 x.1 x.2,x.2)).length=ps.length:=by simp
 rw [hm];rw [←hlen] at hn
 generalize (ps.map fun x=>(zb6 x.1 x.2,x.2))=rs at*
 unfold ziW
 let st:Nat→(Int×List D×List D×Int×Int×PUnit)×PUnit:=fun k=>(((n:Int),pL ((rs.take k).map fun x=>(Tag.fresh,zlP n x.2)),pL rs,((pL rs).length:Int),(k:Int),PUnit.unit),PUnit.unit)
 have hst:st 0=(((n:Int),[],pL rs,((pL rs).length:Int),0,PUnit.unit),PUnit.unit):=rfl;rw [←hst]
 refine zcw st rs.length (by omega) ?_ ?_
 ·intro again k hk;dsimp only [st];obtain ⟨x,hx⟩:∃ x,rs[k]? =some x:=⟨_,List.getElem?_eq_getElem hk⟩
  have hd:decide ((k:Int) < ((pL rs).length:Int))=true:=by simp; omega
  have hfill:([]++List.take (Int.toNat (n:Int)) (uL x.2)++List.drop ((0:Nat)+List.length (List.take (Int.toNat (n:Int)) (uL x.2))) (List.replicate (Int.toNat (n:Int)) (D.int IntKind.u8 (0:Int))))=uL (zlP n x.2):=by
   rw [Int.toNat_natCast,zzA,ztb,zzB,Nat.zero_add,zdM,List.nil_append,←zDu]; rfl
  rw [hd,za0,zab (by omega),zaj (by simpa using zcW hx),zdY,zab (by omega),zab (by rfl),zab (by omega),zab (by omega),zab (by simp),zab (zAN _),hfill,zab (by simp [zjq]),zab (by simp; omega),zab (by rfl),
   zaH,zah (by omega) (by omega),zab (by simp),zHJ (by simp [zjq]),zDX]
  have:(rs.take (k+1)).map (fun x=>(Tag.fresh,zlP n x.2))=(rs.take k).map (fun x=>(Tag.fresh,zlP n x.2))++[(Tag.fresh,zlP n x.2)]:=by rw [List.take_add_one,hx]; simp
  rw [this];rfl
 ·intro again;dsimp only [st]
  have hd:decide ((rs.length:Int) < ((pL rs).length:Int))=false:=by simp
  rw [hd,zat,zab (by rfl),List.take_length,zab (zmF (by intro x hx; obtain ⟨y,hy,rfl⟩:=List.mem_map.1 hx; rfl))]
def fP (ls:List (List Int)):List Part:=ls.map fun l=>(Tag.fresh,l)
@[simp] theorem zD3 (ls:List (List Int)):(fP ls).length=ls.length:=by simp [fP]
theorem zyI (ls:List (List Int)):(fP ls).map (·.2)=ls:=by
 unfold fP;rw [List.map_map];exact List.map_id ls
theorem zfW (ls:List (List Int)):(pL (fP ls)).all D.free=true:=zmF (by intro x hx; obtain ⟨y,_,rfl⟩:=List.mem_map.1 hx; rfl)
theorem zI8 (ls:List (List Int)) (i:Nat) (l:List Int):(fP ls).set i (Tag.fresh,l)=fP (ls.set i l):=by simp [fP,List.map_set]
theorem zvy {ls:List (List Int)} {k:Nat} {l:List Int} (h:ls[k]? =some l):(fP ls)[k]? =some (Tag.fresh,l):=by simp [fP,h]
theorem zFI (ps:List Part):(ps.map fun x=>(Tag.fresh,zlP 32 x.2))=fP (zcT (ps.map (·.2))):=by simp [fP,zcT]
theorem zFJ (ls:List (List Int)):miss ls=(zdE ls).map Int.ofNat:=rfl
theorem zB1 (k:Nat) (hk:k < 100000):za4 [.int .i64 k]=some (.int .u8 (pow8 (k % 255))):=by
 have h:=zyH (k % 255) (Nat.mod_lt _ (by omega))
 rw [ztG] at h ⊢;unfold zr7 at h ⊢
 have e1:Int.tmod (k:Int) 255=((k % 255:Nat):Int):=by rw [Int.tmod_eq_emod_of_nonneg (by omega)]; omega
 have e2:Int.tmod ((k % 255:Nat):Int) 255=((k % 255:Nat):Int):=by rw [Int.tmod_eq_emod_of_nonneg (by omega)]; omega
 rw [e1];rw [e2] at h;exact h
theorem zI9 {a:Nat} (ha:a < 256):ze4 [.int .u8 a]=some (.int .i64 (if logN a=255 then -1 else (logN a:Int))):=by
 rw [zzR];unfold zwR
 refine zgd (a:=(((a:Int),(1:Int),(0:Int),PUnit.unit),PUnit.unit)) (fun x=>(255 - x.1.2.2.1).toNat) (fun x=>some (D.int .i64 (if logF a (255 - x.1.2.2.1.toNat) x.1.2.1.toNat x.1.2.2.1.toNat=255 then -1 else (logF a (255 - x.1.2.2.1.toNat) x.1.2.1.toNat x.1.2.2.1.toNat:Int))))
  (fun x=>∃ n y:Nat,n≤255∧y < 256∧x=(((a:Int),(y:Int),(n:Int),PUnit.unit),PUnit.unit)) ?_ ⟨0,1,by omega,by omega,rfl⟩ (by simp)
 rintro again _ ⟨n,y,hn,hy,rfl⟩ hag
 dsimp only;rw [Int.toNat_natCast,Int.toNat_natCast]
 by_cases h:n < 255
 ·have e:255 - n=(255 - (n+1))+1:=by omega
  have hd:decide ((n:Int) < 255)=true:=by simp; omega
  rw [hd,za0,e]
  by_cases hya:y=a
  ·subst hya
   have:logF y (255 - (n+1)+1) y n=n:=by unfold logF; rw [if_pos rfl]
   rw [this,if_neg (by omega)]
   simp
  ·have hb:((y:Int) == (a:Int))=false:=by simp; omega
   have:logF a (255 - (n+1)+1) y n=logF a (255 - (n+1)) (dblN y) (n+1):=by rw [logF,if_neg hya]
   have hh:=hag (((a:Int),((dblN y:Nat):Int),((n+1:Nat):Int),PUnit.unit),PUnit.unit) ⟨n+1,dblN y,by omega,zlN hy,rfl⟩ (by dsimp only; omega)
   dsimp only at hh;rw [Int.toNat_natCast,Int.toNat_natCast] at hh
   rw [hb,zat,gf_double,zac,zaY,zaH,zah (by omega) (by omega),zzr hy,this]
   exact hh
 ·have:n=255:=by omega
  subst this;simp [logF]
theorem zGy {a:Int} (ha:Byt a):zc1 [.int .u8 a]=some (.int .u8 (inv8 a)):=by
 obtain ⟨m,hm,rfl⟩:=ze7 ha;rw [zzS];unfold zwS inv8 invN;rw [Int.toNat_natCast]
 by_cases h0:m=0
 ·subst h0; simp
 ·obtain ⟨h1,h2⟩:=zHq m hm h0
  have hb:((m:Int) == 0)=false:=by simp; omega
  rw [hb,zat,zI9 hm,zac,zaY,if_neg (by omega),if_neg h0,zaH,zah (by omega) (by omega),show (255:Int) - (logN m:Int)=((255 - logN m:Nat):Int) by omega,zB1 _ (by omega),zac,zaY,zmV]
section
variable {ps:List Part} (h1:0 < ps.length) (h8:ps.length≤8) (hs:∀ x∈ps,x.2.length=32)
include h1 h8 hs
theorem by_q (tq tg:Tag) {q:List Int} (hq:q.length=32) {k:Nat} (hk:k < 8):
  zcP [.sl tq (uL q),.sl tg (pL ps),.int .i64 k]=some (.sl .own (uL (byQ q (ps.map (·.2)) k))):=by
 rw [zux,zdr,zdl]
 have hm:(ps.map fun x=>(zb6 x.1 x.2,x.2)).map (·.2)=ps.map (·.2):=by rw [List.map_map]; rfl
 have hlen:(ps.map fun x=>(zb6 x.1 x.2,x.2)).length=ps.length:=by simp
 have hs':∀ x∈(ps.map fun x=>(zb6 x.1 x.2,x.2)),x.2.length=32:=by intro x hx; obtain ⟨y,hy,rfl⟩:=List.mem_map.1 hx; exact hs y hy
 rw [←hm];rw [←hlen] at h1 h8
 generalize (ps.map fun x=>(zb6 x.1 x.2,x.2))=rs at*
 unfold zoB
 have hQ:=zDZ (n:=32) .lent (ps:=rs) (by omega) h1 (by omega) hs'
 have hr:Byt (inv8 (pow8 k)):=zAM _
 have ha:(addL q (sumQ 32 (rs.map (·.2)))).length < 100000:=by unfold addL; split<;>simp<;>omega
 simp (disch:=first | omega | assumption | (simp; done) | fail) [-List.all_eq_true,hQ,ziJ _ _ _ _ (show q.length < 100000 by omega),zyH k (by omega),zGy (zAI k),zjW _ _ ha hr.1 hr.2]
 rfl
theorem zJa (tp tq tg:Tag) {p q:List Int} (hp:p.length=32) (hq:q.length=32) {j k:Nat} (hj:j < 8) (hk:k < 8):
  zc6 [.sl tp (uL p),.sl tq (uL q),.sl tg (pL ps),.int .i64 j,.int .i64 k]=some (.tup [.sl .own (uL (twoX p q (ps.map (·.2)) j k)),.sl .own (uL (twoY p q (ps.map (·.2)) j k))]):=by
 rw [zuv,zdr,zdr,zdl]
 have hm:(ps.map fun x=>(zb6 x.1 x.2,x.2)).map (·.2)=ps.map (·.2):=by rw [List.map_map]; rfl
 have hlen:(ps.map fun x=>(zb6 x.1 x.2,x.2)).length=ps.length:=by simp
 have hs':∀ x∈(ps.map fun x=>(zb6 x.1 x.2,x.2)),x.2.length=32:=by intro x hx; obtain ⟨y,hy,rfl⟩:=List.mem_map.1 hx; exact hs y hy
 rw [←hm];rw [←hlen] at h1 h8
 generalize (ps.map fun x=>(zb6 x.1 x.2,x.2))=rs at*
 unfold zoA
 have hQ:=zDZ (n:=32) .lent (ps:=rs) (by omega) h1 (by omega) hs'
 have hP:=zDY (n:=32) .lent (ps:=rs) (by omega) h1 (by omega) hs'
 have hr:Byt (inv8 (xor8 (pow8 j) (pow8 k))):=zAM _
 have addl:∀ {a b:List Int},a.length≤32→(addL a b).length≤32:=by intro a b h; unfold addL; split<;>simp<;>omega
 have h2:(addL p (sumP 32 (rs.map (·.2)))).length≤32:=addl (by omega)
 have h3:(addL q (sumQ 32 (rs.map (·.2)))).length≤32:=addl (by omega)
 have h4:(addL (addL q (sumQ 32 (rs.map (·.2)))) ((addL p (sumP 32 (rs.map (·.2)))).map (mul8 · (pow8 k)))).length≤32:=addl h3
 simp (disch:=first | omega | assumption | (simp; done) | fail) [-List.all_eq_true,hQ,hP,ziJ _ _ _ _ (show q.length < 100000 by omega),ziJ _ _ _ _ (show p.length < 100000 by omega),zyH j (by omega),zyH k (by omega),zGy (zpd _ _),
  zjW _ _ (show (addL p (sumP 32 (rs.map (·.2)))).length < 100000 by omega) (zjp k).1 (zjp k).2,ziJ _ _ _ _ (show (addL q (sumQ 32 (rs.map (·.2)))).length < 100000 by omega),ziJ _ _ _ _ (show (addL p (sumP 32 (rs.map (·.2)))).length < 100000 by omega),
  zjW _ _ (show (addL (addL q (sumQ 32 (rs.map (·.2)))) ((addL p (sumP 32 (rs.map (·.2)))).map (mul8 · (pow8 k)))).length < 100000 by omega) hr.1 hr.2]
 exact ⟨rfl,rfl⟩
end
end Wf

namespace Wf
open Go Go.RowKit Go.Proofs
set_option linter.unusedSimpArgs false
set_option linter.unusedVariables false
set_option maxHeartbeats 4000000
def solD:Option (List (List Int))→D
 | none=>.tup [.sl .own [],.bool false]
 | some o=>.tup [.sl .own (pL (fP o)),.bool true]
theorem pLs (ls:List (List Int)) (i:Nat) (l:List Int):(pL (fP ls)).set i (.sl .fresh (uL l))=pL (fP (ls.set i l)):=by rw [zru,zI8]
theorem zw6 {ls:List (List Int)} {i:Nat} (h:i < ls.length):(pL (fP ls))[i]? =some (.sl .fresh (uL (ls.getD i []))):=by
 have e:ls[i]? =some (ls.getD i []):=by rw [List.getD_eq_getElem?_getD,List.getElem?_eq_getElem h]; rfl
 exact zcW (zvy e)
theorem zFK (tp tq tg:Tag) (p q:List Int) {ps:List Part} (hn:ps.length < 100000):
  zco [.int .i64 32,.sl tp (uL p),.sl tq (uL q),.sl tg (pL ps)]=some (solD (zpg p q (ps.map (·.2)))):=by
 rw [zrO,zdr,zdr,zdl]
 have hm:(ps.map fun x=>(zb6 x.1 x.2,x.2)).map (·.2)=ps.map (·.2):=by rw [List.map_map]; rfl
 have hlen:(ps.map fun x=>(zb6 x.1 x.2,x.2)).length=ps.length:=by simp
 rw [←hm];rw [←hlen] at hn
 generalize (ps.map fun x=>(zb6 x.1 x.2,x.2))=rs at*
 clear hm hlen ps;unfold zkz zpg;have hmi:=zp0 .lent rs hn;rw [zFJ] at hmi
 have hpq:zb1 [.sl .full [.sl .lent (uL p),.sl .lent (uL q)]]=some (.sl .own (intL ((zdE [p,q]).map Int.ofNat))):=zp0 .full [(Tag.lent,p),(Tag.lent,q)] (by simp)
 have hfi:=erase_fits .lent rs hn 32
 have hfa:(rs.all fun x=>fitS 32 x.2)=(rs.map (·.2)).all (fitS 32):=by rw [List.all_map]; rfl
 rw [hfa] at hfi
 have hfpq:zcu [.int .i64 32,.sl .full [.sl .lent (uL p),.sl .lent (uL q)]]=some (.bool ([p,q].all (fitS 32))):=erase_fits .full [(Tag.lent,p),(Tag.lent,q)] (by simp) 32
 have hfl:zcb [.int .i64 32,.sl .lent (pL rs)]=some (.sl .own (pL (fP (zcT (rs.map (·.2)))))):=by
  have:=erase_filled 32 (by omega) .lent rs hn
  rw [zFI] at this;exact this
 have hl:(rs.map (·.2)).length=rs.length:=by simp
 generalize hls:rs.map (·.2)=ls at*
 have hfill:(zcT ls).length=rs.length:=by rw [zdj,hl]
 by_cases c1:rs.length < 1
 ·rw [if_pos (.inl (by omega))]
  simp (disch:=first | omega | assumption | (simp; done) | fail) [-List.all_eq_true,hmi,c1,solD]
 by_cases c2:8 < rs.length
 ·rw [if_pos (.inr (.inl (by omega)))]
  simp (disch:=first | omega | assumption | (simp; done) | fail) [-List.all_eq_true,hmi,c1,c2,solD]
 cases c3:ls.all (fitS 32)
 ·rw [if_pos (.inr (.inr (.inl rfl)))]
  simp (disch:=first | omega | assumption | (simp; done) | fail) [-List.all_eq_true,hmi,c1,c2,hfi,c3,solD]
 cases c4:[p,q].all (fitS 32)
 ·rw [if_pos (.inr (.inr (.inr rfl)))]
  simp (disch:=first | omega | assumption | (simp; done) | fail) [-List.all_eq_true,-List.all_cons,hmi,c1,c2,hfi,c3,hfpq,c4,solD]
 rw [if_neg (by rintro (e | e | e | e)<;>first | omega | cases e)]
 have hml:(zdE ls).length≤8:=by
  have:(zdE ls).length≤ls.length:=by unfold zdE; exact Nat.le_trans (List.length_filter_le _ _) (by simp)
  omega
 have hml2:=zzz p q
 have hml3:(zdE [p,q]).length≤2:=by rw [hml2]; split<;>split<;>omega
 by_cases c5:2 < (zdE ls).length+(zdE [p,q]).length
 ·rw [if_pos c5]
  simp (disch:=first | omega | assumption | (simp; done) | fail) [-List.all_eq_true,-List.all_cons,hmi,c1,c2,hfi,c3,hfpq,c4,hpq,zgv,zah,solD]
 rw [if_neg c5];rcases hmm:zdE ls with _ | ⟨j,_ | ⟨k,_ | ⟨m,t⟩⟩⟩
 ·rw [hmm] at c5 hmi
  simp (disch:=first | omega | assumption | (simp; done) | fail) [-List.all_eq_true,-List.all_cons,hmi,c1,c2,hfi,c3,hfpq,c4,hpq,zgv,zah,solD,hfl,zfW]
 ·have hj:=zeG.1 (show j∈zdE ls by rw [hmm]; simp)
  rw [hmm] at c5 hmi;have hi1:intL [(j:Int)]=[.int .i64 j]:=rfl
  have c6:¬ 2 < 1+((zdE [p,q]).length:Int):=by simp at c5; omega
  have hg:=zw6 (ls:=zcT ls) (i:=j) (by omega)
  dsimp only
  by_cases hp:0 < p.length
  ·rw [if_pos hp]
   have hP:=zDY (n:=32) .lent (ps:=fP (zcT ls)) (by omega) (by simp; omega) (by simp; omega) (by intro x hx; obtain ⟨l,hl,rfl⟩:=List.mem_map.1 hx; unfold zcT at hl; obtain ⟨y,_,rfl⟩:=List.mem_map.1 hl; exact zjq 32 y)
   rw [zyI] at hP
   have hpl:p.length=32:=by
    simp [fitS] at c4;rcases c4.1 with e | e
    ·rw [e] at hp; cases hp
    ·omega
   simp (disch:=first | omega | assumption | (simp; done) | fail) [-List.all_eq_true,-List.all_cons,hmi,c1,c2,hfi,c3,hfpq,c4,hpq,zgv,hi1,zah,solD,hfl,hP,hp,ziJ,zaj hg,pLs,zfW,hfill,c6,D.isAgg]
  ·rw [if_neg hp]
   have hq:q.length=32:=by
    have hp0:p=[]:=by cases p; rfl; simp at hp
    have hq0:¬ q=[]:=by intro e; rw [hml2,if_pos hp0,if_pos e] at c5; simp at c5
    simp [fitS] at c4;rcases c4.2 with e | e
    ·exact absurd e hq0
    ·omega
   have hQ:=by_q (ps:=fP (zcT ls)) (by simp; omega) (by simp; omega) (by intro x hx; obtain ⟨l,hl,rfl⟩:=List.mem_map.1 hx; unfold zcT at hl; obtain ⟨y,_,rfl⟩:=List.mem_map.1 hl; exact zjq 32 y) .lent .lent hq (k:=j) (by omega)
   rw [zyI] at hQ
   simp (disch:=first | omega | assumption | (simp; done) | fail) [-List.all_eq_true,-List.all_cons,hmi,c1,c2,hfi,c3,hfpq,c4,hpq,zgv,hi1,zah,solD,hfl,hQ,hp,zaj hg,pLs,zfW,hfill,c6,D.isAgg]
 ·have hj:=zeG.1 (show j∈zdE ls by rw [hmm]; simp)
  have hk:=zeG.1 (show k∈zdE ls by rw [hmm]; simp)
  have hjk:j < k:=by have:=zn5 ls; rw [hmm] at this; simpa using this
  rw [hmm] at c5 hmi;have hi1:intL [(j:Int),(k:Int)]=[.int .i64 j,.int .i64 k]:=rfl
  have c6:¬ 2 < 2+((zdE [p,q]).length:Int):=by simp at c5; simp [c5]
  have hp0:¬ p=[]:=by intro e; rw [hml2,if_pos e] at c5; simp at c5
  have hq0:¬ q=[]:=by intro e; rw [hml2,if_pos e] at c5; simp at c5
  have hpl:p.length=32∧q.length=32:=by
   simp [fitS] at c4
   exact ⟨by rcases c4.1 with e | e; exact absurd e hp0; omega,by rcases c4.2 with e | e; exact absurd e hq0; omega⟩
  have hT:=zJa (ps:=fP (zcT ls)) (by simp; omega) (by simp; omega) (by intro x hx; obtain ⟨l,hl,rfl⟩:=List.mem_map.1 hx; unfold zcT at hl; obtain ⟨y,_,rfl⟩:=List.mem_map.1 hl; exact zjq 32 y) .lent .lent .lent hpl.1 hpl.2 (j:=j) (k:=k) (by omega) (by omega)
  rw [zyI] at hT
  have hg:=zw6 (ls:=zcT ls) (i:=j) (by omega)
  have hg2:=zw6 (ls:=(zcT ls).set j (twoX p q (zcT ls) j k)) (i:=k) (by simp; omega)
  dsimp only
  simp (disch:=first | omega | assumption | (simp; done) | fail) [-List.all_eq_true,-List.all_cons,hmi,c1,c2,hfi,c3,hfpq,c4,hpq,zgv,hi1,zah,solD,hfl,hT,zaj hg,zaj hg2,pLs,zfW,hfill,c6,D.isAgg]
 ·rw [hmm] at c5; simp at c5; omega
end Wf

namespace Wf
open Go Go.RowKit Go.Proofs
set_option linter.unusedSimpArgs false
set_option linter.unusedVariables false
def zq0 (b:Int) (k:Nat) (s:Int×Int):Int×Int:=
  (if IntKind.i64.wrap (s.1*2) > 255 then bits .xor .i64 (IntKind.i64.wrap (s.1*2)) 285 else IntKind.i64.wrap (s.1*2),
   if bits .and .u8 (b.fdiv (2 ^ min k 8)) 1=1 then bits .xor .i64 s.2 s.1 else s.2)
def zeZ (a b:Int):Nat→Int×Int
 | 0=>(IntKind.i64.wrap a,0)
 | k+1=>zq0 b k (zeZ a b k)
def zfs (a b:Int):Int:=IntKind.u8.wrap (zeZ a b 8).2
theorem zD4 (a b:Int):zaS [.int .u8 a,.int .u8 b]=some (.int .u8 (zfs a b)):=by
 rw [zne];unfold zgi;rw [zaH]
 refine zcw (fun k=>((b,(zeZ a b k).1,(zeZ a b k).2,(k:Int),PUnit.unit),PUnit.unit)) 8 (by omega) ?_ ?_
 ·intro again k hk;dsimp only
  have hd:decide ((k:Int) < 8)=true:=by simp; omega
  rw [hd,za0,zaH,zE6 (by omega) (by omega),zab (by omega),zaH,zaH,Int.toNat_natCast]
  have hs:zeZ a b (k+1)=zq0 b k (zeZ a b k):=rfl
  have hk1:IntKind.i64.wrap ((k:Int)+1)=((k+1:Nat):Int):=by rw [zah (by omega) (by omega)]; rfl
  rw [hs];unfold zq0
  by_cases hb:bits .and .u8 (b.fdiv (2 ^ min k 8)) 1=1
  ·have hb':(bits .and .u8 (b.fdiv (2 ^ min k 8)) 1 == 1)=true:=by simp [hb]
   rw [hb',za0,zaH,zaH,if_pos hb]
   by_cases hx:IntKind.i64.wrap ((zeZ a b k).1*2) > 255
   ·have hx':decide (IntKind.i64.wrap ((zeZ a b k).1*2) > 255)=true:=by simp [hx]
    rw [hx',za0,zaH,zaH,hk1,if_pos hx]
   ·have hx':decide (IntKind.i64.wrap ((zeZ a b k).1*2) > 255)=false:=by simp; omega
    rw [hx',zat,zaH,hk1,if_neg hx]
  ·have hb':(bits .and .u8 (b.fdiv (2 ^ min k 8)) 1 == 1)=false:=by simp [hb]
   rw [hb',zat,zaH,if_neg hb]
   by_cases hx:IntKind.i64.wrap ((zeZ a b k).1*2) > 255
   ·have hx':decide (IntKind.i64.wrap ((zeZ a b k).1*2) > 255)=true:=by simp [hx]
    rw [hx',za0,zaH,zaH,hk1,if_pos hx]
   ·have hx':decide (IntKind.i64.wrap ((zeZ a b k).1*2) > 255)=false:=by simp; omega
    rw [hx',zat,zaH,hk1,if_neg hx]
 ·intro again;dsimp only
  have hd:decide (((8:Nat):Int) < 8)=false:=by simp
  rw [hd,zat,zaH];rfl
def zex:Nat→Int
 | 0=>1
 | k+1=>zfs (zex k) 2
theorem zHK (k:Nat) (hk:k < 255):zbS [.int .i64 k]=some (.int .u8 (zex k)):=by
 rw [zng];unfold zgj
 have e1:Int.tmod (k:Int) 255=k:=by rw [Int.tmod_eq_emod_of_nonneg (by omega),Int.emod_eq_of_lt (by omega) (by omega)]
 have hd:decide ((k:Int) < 0)=false:=by simp
 rw [zaH,e1,hd,zat]
 let st:Nat→(Int×Int×PUnit)×PUnit:=fun j=>(((k:Int) - (j:Int),zex j,PUnit.unit),PUnit.unit)
 have hst:st 0=(((k:Int),1,PUnit.unit),PUnit.unit):=by simp [st,zex]
 rw [←hst]
 refine zcw st k (by omega) ?_ ?_
 ·intro again j hj;dsimp only [st]
  have hd:decide ((k:Int) - (j:Int) > 0)=true:=by simp; omega
  rw [hd,za0,zD4,zac,zaY,zaH,zah (by omega) (by omega)]
  have:(k:Int) - (j:Int) - 1=(k:Int) - ((j+1:Nat):Int):=by omega
  rw [this];rfl
 ·intro again;dsimp only [st]
  have hd:decide ((k:Int) - (k:Int) > 0)=false:=by simp
  rw [hd,zat]
def mixL (f:Int→Int→Int) (acc p:List Int) (j:Nat):List Int:=(List.zipWith f acc p).take j++acc.drop j
theorem zA6 {f:Int→Int→Int} {acc p:List Int} (h:p.length=acc.length) {j:Nat} (hj:j≤acc.length):(mixL f acc p j).length=acc.length:=by
 unfold mixL; simp [h]; omega
theorem zA7 {f:Int→Int→Int} {acc p:List Int} (h:p.length=acc.length) {j:Nat} (hj:j < acc.length):(mixL f acc p j)[j]? =some acc[j]:=by
 unfold mixL
 rw [List.getElem?_append_right (by simp; omega)]
 simp [h]
 rw [show j - min j acc.length=0 by omega]
 simp [hj]
theorem zA8 {f:Int→Int→Int} {acc p:List Int} (h:p.length=acc.length) {j:Nat} (hj:j < acc.length):(mixL f acc p j).set j (f acc[j] (p[j]'(by omega)))=mixL f acc p (j+1):=by
 unfold mixL
 have hl:((List.zipWith f acc p).take j).length=j:=by simp [h]; omega
 rw [List.set_append_right _ _ (by omega),hl,Nat.sub_self,List.take_add_one,List.drop_eq_getElem_cons hj,List.set_cons_zero]
 simp [List.getElem?_zipWith,hj,h]
theorem zA9 {f:Int→Int→Int} {acc p:List Int} (h:p.length=acc.length):mixL f acc p acc.length=List.zipWith f acc p:=by
 unfold mixL
 rw [List.drop_of_length_le (Nat.le_refl _),List.append_nil,List.take_of_length_le (by simp; omega)]
theorem zyJ (f:Int→Int→Int) (acc p:List Int):mixL f acc p 0=acc:=by simp [mixL]
def sumR (F:Nat→Int→Int) (n:Nat) (ls:List (List Int)):Nat→List Int
 | 0=>List.replicate n 0
 | k+1=>List.zipWith (fun a x=>xor8 a (F k x)) (sumR F n ls k) (ls.getD k [])
theorem zw7 {F:Nat→Int→Int} {n:Nat} {ls:List (List Int)} (h:∀ l∈ls,l.length=n):∀ {k:Nat},k≤ls.length→(sumR F n ls k).length=n
 | 0,_=>by simp [sumR]
 | k+1,hk=>by
  have e:ls.getD k []=ls[k]:=by simp [List.getD_eq_getElem?_getD,List.getElem?_eq_getElem (show k < ls.length by omega)]
  simp only [sumR,List.length_zipWith,e,zw7 h (show k≤ls.length by omega),h _ (List.getElem_mem (show k < ls.length by omega))]
  omega
def refP (n:Nat) (ls:List (List Int)):List Int:=sumR (fun _ x=>x) n ls ls.length
def refQ (n:Nat) (ls:List (List Int)):List Int:=sumR (fun k x=>zfs x (zex k)) n ls ls.length
theorem zyK (tg:Tag) {ps:List Part} {n:Nat} (h0:0 < ps.length) (h1:ps.length < 100000) (h:∀ x∈ps,x.2.length=n):zaJ [.sl tg (pL ps)]=some (.bool true):=by
 rw [zk8,zdl]
 have hlen:(ps.map fun x=>(zb6 x.1 x.2,x.2)).length=ps.length:=by simp
 have hl':∀ x∈(ps.map fun x=>(zb6 x.1 x.2,x.2)),x.2.length=n:=by intro x hx; obtain ⟨y,hy,rfl⟩:=List.mem_map.1 hx; exact h y hy
 rw [←hlen] at h0 h1
 generalize (ps.map fun x=>(zb6 x.1 x.2,x.2))=rs at*
 unfold zfc;obtain ⟨x0,hx0⟩:∃ x,rs[0]? =some x:=⟨_,List.getElem?_eq_getElem h0⟩
 refine zcw (fun k=>((pL rs,pL rs,((pL rs).length:Int),(k:Int),PUnit.unit),PUnit.unit)) rs.length h1 ?_ ?_
 ·intro again k hk;dsimp only;obtain ⟨x,hx⟩:∃ x,rs[k]? =some x:=⟨_,List.getElem?_eq_getElem hk⟩
  have hd:decide ((k:Int) < ((pL rs).length:Int))=true:=by simp; omega
  have hb:(((uL x.2).length:Int) != ((uL x0.2).length:Int))=false:=by simp [hl' x (List.mem_of_getElem? hx),hl' x0 (List.mem_of_getElem? hx0)]
  rw [hd,za0,zab (by omega),zaj (by simpa using zcW hx),zdY,zaj (zcW hx0),zdY,hb,zat,zaH,zah (by omega) (by omega)]
  rfl
 ·intro again
  have hd:decide ((rs.length:Int) < ((pL rs).length:Int))=false:=by simp
  have hd2:decide (((pL rs).length:Int) > 0)=true:=by simp; omega
  dsimp only;rw [hd,zat,hd2]
theorem zJY (tg:Tag) {ps:List Part} {n:Nat} (hn:n < 100000) (h0:0 < ps.length) (h1:ps.length < 100000) (h:∀ x∈ps,x.2.length=n):zb8 [.sl tg (pL ps)]=some (.sl .own (uL (refP n (ps.map (·.2))))):=by
 rw [zpr,zdl]
 have hlen:(ps.map fun x=>(zb6 x.1 x.2,x.2)).length=ps.length:=by simp
 have hm:(ps.map fun x=>(zb6 x.1 x.2,x.2)).map (·.2)=ps.map (·.2):=by rw [List.map_map]; rfl
 have hl':∀ x∈(ps.map fun x=>(zb6 x.1 x.2,x.2)),x.2.length=n:=by intro x hx; obtain ⟨y,hy,rfl⟩:=List.mem_map.1 hx; exact h y hy
 rw [←hlen] at h0 h1;rw [←hm]
 generalize (ps.map fun x=>(zb6 x.1 x.2,x.2))=rs at*
 clear hm hlen h ps;unfold zhU;obtain ⟨x0,hx0⟩:∃ x,rs[0]? =some x:=⟨_,List.getElem?_eq_getElem h0⟩
 have hls:∀ l∈rs.map (·.2),l.length=n:=by intro l hl; obtain ⟨y,hy,rfl⟩:=List.mem_map.1 hl; exact hl' y hy
 rw [zyK .lent h0 h1 hl',zac,zcn,Bool.not_true,zat,zaj (zcW hx0),zdY,zab (by rfl),zdM,hl' x0 (List.mem_of_getElem? hx0),zab (by omega),zab (by omega),zab (by simp),Int.toNat_natCast,ztb]
 let st:Nat→(List D×List D×Int×Int×PUnit)×PUnit:=fun k=>((uL (sumR (fun _ x=>x) n (rs.map (·.2)) k),pL rs,((pL rs).length:Int),(k:Int),PUnit.unit),PUnit.unit)
 have hst:st 0=((uL (List.replicate n 0),pL rs,((pL rs).length:Int),0,PUnit.unit),PUnit.unit):=rfl;rw [←hst];refine zcw st rs.length h1 ?_ ?_
 ·intro again k hk;dsimp only [st];obtain ⟨x,hx⟩:∃ x,rs[k]? =some x:=⟨_,List.getElem?_eq_getElem hk⟩;have hxl:=hl' x (List.mem_of_getElem? hx)
  have hd:decide ((k:Int) < ((pL rs).length:Int))=true:=by simp; omega
  have hsl:=zw7 (F:=fun _ x=>x) hls (k:=k) (by simp; omega)
  have hxe:x.2.length=(sumR (fun _ x=>x) n (rs.map (·.2)) k).length:=by omega
  rw [hd,za0,zab (by omega),zaj (by simpa using zcW hx),zdY,zab (by rfl)]
  let s2:Nat→(List D×List D×Int×Int×(Tag×List D)×Int×Int×PUnit)×PUnit:=fun j=>((uL (mixL (fun a x=>xor8 a x) (sumR (fun _ x=>x) n (rs.map (·.2)) k) x.2 j),pL rs,((pL rs).length:Int),(k:Int),(x.1,uL x.2),((uL x.2).length:Int),(j:Int),PUnit.unit),PUnit.unit)
  have hs2:s2 0=((uL (sumR (fun _ x=>x) n (rs.map (·.2)) k),pL rs,((pL rs).length:Int),(k:Int),(x.1,uL x.2),((uL x.2).length:Int),0,PUnit.unit),PUnit.unit):=by simp only [s2,zyJ]; rfl
  rw [←hs2]
  refine zcw s2 x.2.length (by omega) ?_ ?_
  ·intro again2 j hj;dsimp only [s2]
   have hd:decide ((j:Int) < ((uL x.2).length:Int))=true:=by simp; omega
   have g1:x.2[j]? =some x.2[j]:=List.getElem?_eq_getElem hj
   have g2:=zA7 (f:=fun a x=>xor8 a x) hxe (j:=j) (by omega)
   have ml:=zA6 (f:=fun a x=>xor8 a x) hxe (j:=j) (by omega)
   have ms:=zA8 (f:=fun a x=>xor8 a x) hxe (j:=j) (by omega)
   rw [hd,za0,zab (by omega),zaj (by simpa using zkN g1),zaY,zab (by omega),zab (by rw [zdM,ml]; omega),zaj (by simpa using zkN g2),zaY,zaH,zab (by omega),zab (by rw [zdM,ml]; omega),zaj (by simpa using zkN g2),zab (by rfl),zaH,
    zah (by omega) (by omega),zab (by simp),Nat.zero_add,zDw,show Int.toNat (j:Int)=j from rfl,ms]
   rfl
  ·intro again2;dsimp only [s2]
   have hd:decide ((x.2.length:Int) < ((uL x.2).length:Int))=false:=by simp
   have me:mixL (fun a x=>xor8 a x) (sumR (fun _ x=>x) n (rs.map (·.2)) k) x.2 x.2.length=sumR (fun _ x=>x) n (rs.map (·.2)) (k+1):=by
    rw [hxe,zA9 hxe]
    have:(rs.map (·.2)).getD k []=x.2:=by simp [List.getD_eq_getElem?_getD,hx]
    simp only [sumR,this]
   rw [hd,zat,zaH,zah (by omega) (by omega),zab (by rfl),me]
   rfl
 ·intro again;dsimp only [st]
  have hd:decide ((rs.length:Int) < ((pL rs).length:Int))=false:=by simp
  rw [hd,zat,zab (by rfl),zab (zhR _)]
  simp [refP]
theorem zJZ (tg:Tag) {ps:List Part} {n:Nat} (hn:n < 100000) (h0:0 < ps.length) (h1:ps.length < 255) (h:∀ x∈ps,x.2.length=n):zb9 [.sl tg (pL ps)]=some (.sl .own (uL (refQ n (ps.map (·.2))))):=by
 rw [zpt,zdl]
 have hlen:(ps.map fun x=>(zb6 x.1 x.2,x.2)).length=ps.length:=by simp
 have hm:(ps.map fun x=>(zb6 x.1 x.2,x.2)).map (·.2)=ps.map (·.2):=by rw [List.map_map]; rfl
 have hl':∀ x∈(ps.map fun x=>(zb6 x.1 x.2,x.2)),x.2.length=n:=by intro x hx; obtain ⟨y,hy,rfl⟩:=List.mem_map.1 hx; exact h y hy
 rw [←hlen] at h0 h1;rw [←hm]
 generalize (ps.map fun x=>(zb6 x.1 x.2,x.2))=rs at*
 clear hm hlen h ps;unfold zhX;obtain ⟨x0,hx0⟩:∃ x,rs[0]? =some x:=⟨_,List.getElem?_eq_getElem h0⟩
 have hls:∀ l∈rs.map (·.2),l.length=n:=by intro l hl; obtain ⟨y,hy,rfl⟩:=List.mem_map.1 hl; exact hl' y hy
 rw [zyK .lent h0 (by omega) hl',zac,zcn,Bool.not_true,zat,zaj (zcW hx0),zdY,zab (by rfl),zdM,hl' x0 (List.mem_of_getElem? hx0),zab (by omega),zab (by omega),zab (by simp),Int.toNat_natCast,ztb]
 let st:Nat→(List D×List D×Int×Int×PUnit)×PUnit:=fun k=>((uL (sumR (fun k x=>zfs x (zex k)) n (rs.map (·.2)) k),pL rs,((pL rs).length:Int),(k:Int),PUnit.unit),PUnit.unit)
 have hst:st 0=((uL (List.replicate n 0),pL rs,((pL rs).length:Int),0,PUnit.unit),PUnit.unit):=rfl;rw [←hst]
 refine zcw st rs.length (by omega) ?_ ?_
 ·intro again k hk;dsimp only [st];obtain ⟨x,hx⟩:∃ x,rs[k]? =some x:=⟨_,List.getElem?_eq_getElem hk⟩;have hxl:=hl' x (List.mem_of_getElem? hx)
  have hd:decide ((k:Int) < ((pL rs).length:Int))=true:=by simp; omega
  have hsl:=zw7 (F:=fun k x=>zfs x (zex k)) hls (k:=k) (by simp; omega)
  have hxe:x.2.length=(sumR (fun k x=>zfs x (zex k)) n (rs.map (·.2)) k).length:=by omega
  rw [hd,za0,zab (by omega),zaj (by simpa using zcW hx),zdY,zHK k (by omega),zac,zaY,zab (by rfl)]
  let s2:Nat→(List D×Int×List D×Int×Int×(Tag×List D)×Int×Int×PUnit)×PUnit:=fun j=>((uL (mixL (fun a x=>xor8 a (zfs x (zex k))) (sumR (fun k x=>zfs x (zex k)) n (rs.map (·.2)) k) x.2 j),zex k,pL rs,((pL rs).length:Int),(k:Int),(x.1,uL x.2),((uL x.2).length:Int),(j:Int),PUnit.unit),PUnit.unit)
  have hs2:s2 0=((uL (sumR (fun k x=>zfs x (zex k)) n (rs.map (·.2)) k),zex k,pL rs,((pL rs).length:Int),(k:Int),(x.1,uL x.2),((uL x.2).length:Int),0,PUnit.unit),PUnit.unit):=by simp only [s2,zyJ]; rfl
  rw [←hs2]
  refine zcw s2 x.2.length (by omega) ?_ ?_
  ·intro again2 j hj;dsimp only [s2]
   have hd:decide ((j:Int) < ((uL x.2).length:Int))=true:=by simp; omega
   have g1:x.2[j]? =some x.2[j]:=List.getElem?_eq_getElem hj
   have g2:=zA7 (f:=fun a x=>xor8 a (zfs x (zex k))) hxe (j:=j) (by omega)
   have ml:=zA6 (f:=fun a x=>xor8 a (zfs x (zex k))) hxe (j:=j) (by omega)
   have ms:=zA8 (f:=fun a x=>xor8 a (zfs x (zex k))) hxe (j:=j) (by omega)
   rw [hd,za0,zab (by omega),zaj (by simpa using zkN g1),zaY,zab (by omega),zab (by rw [zdM,ml]; omega),zaj (by simpa using zkN g2),zaY,zD4,zac,zaY,zaH,zab (by omega),zab (by rw [zdM,ml]; omega),zaj (by simpa using zkN g2),zab (by rfl),zaH,
    zah (by omega) (by omega),zab (by simp),Nat.zero_add,zDw,show Int.toNat (j:Int)=j from rfl,ms]
   rfl
  ·intro again2;dsimp only [s2]
   have hd:decide ((x.2.length:Int) < ((uL x.2).length:Int))=false:=by simp
   have me:mixL (fun a x=>xor8 a (zfs x (zex k))) (sumR (fun k x=>zfs x (zex k)) n (rs.map (·.2)) k) x.2 x.2.length=sumR (fun k x=>zfs x (zex k)) n (rs.map (·.2)) (k+1):=by
    rw [hxe,zA9 hxe]
    have:(rs.map (·.2)).getD k []=x.2:=by simp [List.getD_eq_getElem?_getD,hx]
    simp only [sumR,this]
   rw [hd,zat,zaH,zah (by omega) (by omega),zab (by rfl),me]
   rfl
 ·intro again;dsimp only [st]
  have hd:decide ((rs.length:Int) < ((pL rs).length:Int))=false:=by simp
  rw [hd,zat,zab (by rfl),zab (zhR _)]
  simp [refQ]
def znQ (n:Int) (i:Nat):Int:=IntKind.u8.wrap (IntKind.i64.wrap (n+IntKind.i64.wrap ((i:Int)*bits .or .i64 (IntKind.i64.wrap (n.tdiv 7)) 1)))
def secN (n:Int):List Int:=if n % 11=10 then List.replicate 32 0 else (List.range 32).map (znQ n)
theorem zFL (n:Int):Sec (secN n):=by
 unfold secN;split
 ·exact zyb
 ·refine ⟨by simp,fun x h=>?_⟩
  obtain ⟨i,_,rfl⟩:=List.mem_map.1 h;exact zs7 _
theorem ztV (n:Int):zbn [.int .i64 n]=some (.sl .own (uL (secN n))):=by
 rw [zk5];unfold zfb
 rw [ztR n 11 (by omega) (by omega),zac,zaY]
 unfold secN
 by_cases h:n % 11=10
 ·rw [if_pos h]; simp [h]; rfl
 ·rw [if_neg h]
  have hb:(n % 11 == 10)=false:=by simp [h]
  rw [hb,zat]
  have:=zcw (R:=D) (α:=(Int×List D×Int×Int×PUnit)×PUnit)
   (fun k=>((n,uL ((List.range 32).map fun i=>if i < k then znQ n i else 0),32,(k:Int),PUnit.unit),PUnit.unit)) 32 (by omega)
   (B:=?B) (r:=some (.sl .own (uL ((List.range 32).map (znQ n))))) ?_ ?_
  ·exact this
  ·intro again k hk;dsimp only
   have hd:decide ((k:Int) < 32)=true:=by simp; omega
   have hg:((List.range 32).map fun i=>if i < k then znQ n i else 0)[k]? =some 0:=by simp [hk]
   have hv:znQ n k=IntKind.u8.wrap (IntKind.i64.wrap (n+IntKind.i64.wrap ((k:Int)*bits .or .i64 (IntKind.i64.wrap (n.tdiv 7)) 1))):=rfl
   rw [hd,za0,zaH,zaH,zaH,zaH,zaH,←hv,zab (by omega),zab (by simp; omega),zaj (by simpa using zkN hg)]
   rw [zab (by rfl),zaH,zah (n:=(k:Int)+1) (by omega) (by omega),zab (by simp)]
   have:(uL ((List.range 32).map fun i=>if i < k then znQ n i else 0)).set (0+Int.toNat (k:Int)) (.int .u8 (znQ n k))=uL ((List.range 32).map fun i=>if i < k+1 then znQ n i else 0):=by
    rw [zDw];congr 1;apply List.ext_getElem?;intro j;rw [List.getElem?_set]
    by_cases hj:j < 32
    ·by_cases hjk:k=j
     ·subst hjk; simp [hj]
     ·have:(0+Int.toNat (k:Int))≠j:=by simp; exact hjk
      rw [if_neg this];simp [hj]
      by_cases h1:j < k
      ·rw [if_pos h1,if_pos (by omega)]
      ·rw [if_neg h1,if_neg (by omega)]
    ·simp [hj];omega
   rw [this];rfl
  ·intro again
   have e:((List.range 32).map fun i=>if i < 32 then znQ n i else 0)=(List.range 32).map (znQ n):=by
    apply List.map_congr_left; intro i hi; rw [if_pos (List.mem_range.1 hi)]
   dsimp only;rw [e];simp
def secL (l:List Int) (n:Nat):List (List Int):=(List.range n).map fun (i:Nat)=>secN (l.getD i (3*(i:Int)))
theorem zBa (l:List Int) (n:Nat):∀ x∈secL l n,Sec x:=by
 intro x hx; obtain ⟨i,_,rfl⟩:=List.mem_map.1 hx; exact zFL _
@[simp] theorem zJz (l:List Int) (n:Nat):(secL l n).length=n:=by simp [secL]
theorem zHL (ls:List (List Int)) (l:List Int):pL (fP ls)++[.sl .fresh (uL l)]=pL (fP (ls++[l])):=by simp [pL,fP]
theorem zrv (tg:Tag) (l:List Int) {n:Nat} (hn:n < 100000):zaF [.sl tg (intL l),.int .i64 n]=some (.sl .own (pL (fP (secL l n)))):=by
 rw [zkk,zpa];unfold zeO
 let st:Nat→(List D×Int×List D×Int×PUnit)×PUnit:=fun k=>((intL l,(n:Int),pL (fP (secL l k)),(k:Int),PUnit.unit),PUnit.unit)
 show zca _ (st 0)=_;refine zcw st n hn ?_ ?_
 ·intro again k hk;dsimp only [st]
  have hd:decide ((k:Int) < (n:Int))=true:=by simp; omega
  have hs:secL l (k+1)=secL l k++[secN (l.getD k (3*(k:Int)))]:=by unfold secL; rw [List.range_succ,List.map_append]; rfl
  rw [hd,za0,zaH,zgv,hs,←zHL]
  by_cases hkl:k < l.length
  ·have hd2:decide ((k:Int) < (l.length:Int))=true:=by simp; omega
   have hg:l.getD k (3*(k:Int))=l[k]:=by simp [List.getD_eq_getElem?_getD,hkl]
   rw [hd2,za0,zab (by omega),zaj (by simpa using zE3 hkl),zaY,ztV,zac,zbw,zab (by omega),zab (by simp; omega),zab (by rfl),zaH,zah (n:=(k:Int)+1) (by omega) (by omega),zdL,zab (by simp),hg]
   rfl
  ·have hd2:decide ((k:Int) < (l.length:Int))=false:=by simp; omega
   have hg:l.getD k (3*(k:Int))=3*(k:Int):=by simp [List.getD_eq_getElem?_getD,List.getElem?_eq_none (show l.length≤k by omega)]
   rw [hd2,zat,zah (n:=3*(k:Int)) (by omega) (by omega),ztV,zac,zbw,zab (by omega),zab (by simp; omega),zab (by rfl),zaH,zah (n:=(k:Int)+1) (by omega) (by omega),zdL,zab (by simp),hg]
   rfl
 ·intro again;dsimp only [st]
  have hd:decide ((n:Int) < (n:Int))=false:=by simp
  rw [hd,zat,zab (by rfl),zab (zfW _)]
def zm2 (b:Nat) (k:Nat) (s:Nat×Nat):Nat×Nat:=
 (if 255 < s.1*2 then (s.1*2) ^^^ 285 else s.1*2,if b / 2 ^ k % 2=1 then s.2 ^^^ s.1 else s.2)
def zc2 (a b:Nat):Nat→Nat×Nat
 | 0=>(a,0)
 | k+1=>zm2 b k (zc2 a b k)
theorem zHM {m n k:Nat} (hm:m < 2 ^ k) (hn:n < 2 ^ k):m ^^^ n < 2 ^ k:=Nat.xor_lt_two_pow hm hn
theorem zJb (m n:Nat) (hm:m < 1024) (hn:n < 1024):bits .xor .i64 (m:Int) (n:Int)=((m ^^^ n:Nat):Int):=by
 have h:m ^^^ n < 2 ^ 10:=zHM (by omega) (by omega)
 have e:((BitVec.ofInt 64 (m:Int)) ^^^ (BitVec.ofInt 64 (n:Int))).toNat=m ^^^ n:=by
  rw [BitVec.toNat_xor]
  simp [Nat.mod_eq_of_lt (show m < 18446744073709551616 by omega),Nat.mod_eq_of_lt (show n < 18446744073709551616 by omega)]
 show IntKind.i64.wrap (((BitVec.ofInt 64 (m:Int)) ^^^ (BitVec.ofInt 64 (n:Int))).toNat:Int)=_;rw [e]
 exact zah (by omega) (by omega)
theorem ztW {a b:Nat} (ha:a < 256) (hb:b < 256):∀ k,k≤8→(zeZ a b k).1=((zc2 a b k).1:Int)∧(zeZ a b k).2=((zc2 a b k).2:Int)∧(zc2 a b k).1 < 256∧(zc2 a b k).2 < 256
 | 0,_=>⟨zah (by omega) (by omega),rfl,ha,by show 0 < 256; omega⟩
 | k+1,hk=>by
  obtain ⟨h1,h2,h3,h4⟩:=ztW ha hb k (by omega)
  have w:IntKind.i64.wrap (((zc2 a b k).1:Int)*2)=(((zc2 a b k).1*2:Nat):Int):=by rw [zah (by omega) (by omega)]; omega
  have hx:(zc2 a b k).2 ^^^ (zc2 a b k).1 < 256:=zpc h4 h3
  have hbk:bits .and .u8 ((b:Int).fdiv (2 ^ min k 8)) 1=((b / 2 ^ k % 2:Nat):Int):=by
   have e:((b:Int).fdiv (2 ^ min k 8))=((b / 2 ^ k:Nat):Int):=by
    rw [show min k 8=k by omega,Int.fdiv_eq_ediv_of_nonneg _ (by exact_mod_cast Nat.zero_le (2 ^ k))]
    simp
   rw [e];exact and1 _ (Nat.lt_of_le_of_lt (Nat.div_le_self _ _) hb)
  have hd:∀ x < 256,255 < x*2→(x*2) ^^^ 285 < 256:=by decide+kernel
  show (zq0 b k (zeZ a b k)).1=((zm2 b k (zc2 a b k)).1:Int)∧(zq0 b k (zeZ a b k)).2=((zm2 b k (zc2 a b k)).2:Int)∧(zm2 b k (zc2 a b k)).1 < 256∧(zm2 b k (zc2 a b k)).2 < 256;unfold zq0 zm2
  rw [h1,h2,hbk,w,zJb _ _ (by omega) (by omega)]
  have hx2:=zJb ((zc2 a b k).1*2) 285 (by omega) (by omega)
  refine ⟨?_,?_,?_,?_⟩
  ·dsimp only;split
   ·rw [if_pos (by omega)]; exact hx2
   ·rw [if_neg (by omega)]
  ·dsimp only;split
   ·rw [if_pos (by omega)]
   ·rw [if_neg (by omega)]
  ·dsimp only;split
   ·exact hd _ h3 (by assumption)
   ·omega
  ·dsimp only;split
   ·exact hx
   ·exact h4
theorem zvz {a b:Nat} (ha:a < 256) (hb:b < 256):zfs a b=((zc2 a b 8).2:Int)∧(zc2 a b 8).2 < 256:=by
 obtain ⟨_,h2,_,h4⟩:=ztW ha hb 8 (Nat.le_refl _);unfold zfs;rw [h2]
 exact ⟨zzq (by omega) (by omega),h4⟩
def zq1:Nat→Nat
 | 0=>1
 | k+1=>(zc2 (zq1 k) 2 8).2
theorem zvA:∀ k,zex k=(zq1 k:Int)∧zq1 k < 256
 | 0=>⟨rfl,by decide⟩
 | k+1=>by
  obtain ⟨h1,h2⟩:=zvA k;show zfs (zex k) 2=((zc2 (zq1 k) 2 8).2:Int)∧(zc2 (zq1 k) 2 8).2 < 256
  have:=zvz h2 (show 2 < 256 by omega)
  rw [show ((2:Nat):Int)=2 from rfl] at this
  rw [h1]; exact this
theorem zyL:∀ k < 7,∀ x < 256,(zc2 x (zq1 k) 8).2=mN x (powN k):=by decide+kernel
theorem zz0 {x:Int} (h:Byt x) {k:Nat} (hk:k < 7):zfs x (zex k)=mul8 x (pow8 k):=by
 obtain ⟨m,hm,rfl⟩:=ze7 h;obtain ⟨h1,h2⟩:=zvA k;have e1:=(zvz hm h2).1;have e2:=(zeF hm (ziN k)).1;have e3:=zyL k hk m hm;rw [h1,zmV,e1,e2,e3]
theorem zD5 {F:Nat→Int→Int} {f:Nat→Int} {ls:List (List Int)} (h:∀ l∈ls,Sec l) (hF:∀ k x,k < ls.length→Byt x→F k x=mul8 x (f k)):∀ {k:Nat},k≤ls.length→sumR F 32 ls k=sumK f 32 ls k
 | 0,_=>rfl
 | k+1,hk=>by
  have hs:=h _ (zc9 (show k < ls.length by omega))
  show List.zipWith (fun a x=>xor8 a (F k x)) (sumR F 32 ls k) (ls.getD k [])=List.zipWith xor8 (sumK f 32 ls k) ((ls.getD k []).map (mul8 · (f k)))
  rw [zD5 h hF (by omega),List.zipWith_map_right]
  apply List.ext_getElem?;intro i;rw [List.getElem?_zipWith,List.getElem?_zipWith]
  cases e1:(sumK f 32 ls k)[i]? with
  | none=>rfl
  | some a=>
   cases e2:(ls.getD k [])[i]? with
   | none=>rfl
   | some x=>simp only; rw [hF k x (by omega) (hs.byt x (List.mem_of_getElem? e2))]
theorem zFM {ls:List (List Int)} (h:∀ l∈ls,Sec l):refP 32 ls=sumP 32 ls:=by
 have:=zD5 (F:=fun _ x=>x) (f:=fun _=>1) h (fun _ x _ hx=>(zr1 hx).symm) (Nat.le_refl ls.length)
 exact this
theorem zFN {ls:List (List Int)} (h:∀ l∈ls,Sec l) (h7:ls.length≤7):refQ 32 ls=sumQ 32 ls:=by
 have:=zD5 (F:=fun k x=>zfs x (zex k)) (f:=pow8) h (fun k x hk hx=>zz0 hx (by omega)) (Nat.le_refl ls.length)
 exact this
end Wf

namespace Wf
open Go Go.RowKit Go.Proofs
set_option linter.unusedSimpArgs false
set_option linter.unusedVariables false
set_option maxHeartbeats 4000000
section
variable (g:Geo) (row k n:Int)
theorem zoL:zc0 [.agg [.int .i64 g.l,.int .i64 g.d,.int .i64 g.c],.int .i64 row]=some (.bool (zcF g row)):=by
 rw [zzK];unfold zwJ
 rw [show D.agg [.int .i64 g.l,.int .i64 g.d,.int .i64 g.c]=gD g.l g.d g.c from rfl,zgt,zac]
 show asI IntKind.i64 (.int .i64 _) _=_;rw [zaY];unfold zcF;cases h:g.ok
 ·have:zdU g.l g.d g.c=false:=h;simp [this]
 ·have:zdU g.l g.d g.c=true:=h
  by_cases h0:0≤row
  ·simp [this,h0]
  ·simp [this,h0]
theorem zm3:zaN [.agg [.int .i64 g.l,.int .i64 g.d,.int .i64 g.c],.int .i64 row]=some (.tup [.int .i64 (parP g row).1,.int .i64 (parP g row).2]):=zyB g row
theorem ztX:za1 [.agg [.int .i64 g.l,.int .i64 g.d,.int .i64 g.c],.int .i64 row,.int .i64 k]=some (.int .i64 (zde g row k)):=zvw g row k
theorem zm4:zaf [.agg [.int .i64 g.l,.int .i64 g.d,.int .i64 g.c]]=some (.int .i64 g.width):=zjT g
theorem zyM:zaM [.agg [.int .i64 g.l,.int .i64 g.d,.int .i64 g.c],.int .i64 row,.int .i64 k]=some (.int .i64 (zde g row k)):=zFu g row k
theorem zBb:zaD [.agg [.int .i64 g.l,.int .i64 g.d,.int .i64 g.c],.int .i64 row]=some (.tup [.int .i64 (parP g row).1,.int .i64 (parP g row).2]):=zDN g row
theorem ztY:zak [.agg [.int .i64 g.l,.int .i64 g.d,.int .i64 g.c],.int .i64 row]=some (.bool (zcF g row)):=zr8 g row
theorem zhB:zaa [.agg [.int .i64 g.l,.int .i64 g.d,.int .i64 g.c]]=some (.int .i64 g.width):=zm1 g
theorem zD6:zdg [.agg [.int .i64 g.l,.int .i64 g.d,.int .i64 g.c],.int .i64 n]=some (.tup [.int .i64 (ofP g n).1,.int .i64 (ofP g n).2.1,.bool (ofP g n).2.2]):=zFv g n
theorem ztZ:za5 [.agg [.int .i64 g.l,.int .i64 g.d,.int .i64 g.c],.int .i64 row]=some (.sl .own (zrB g row)):=zBY g row
theorem zD7:za2 [.agg [.int .i64 g.l,.int .i64 g.d,.int .i64 g.c],.int .i64 row]=some (.sl .own (zrB g row)):=zFw g row
end
def zif (g:Geo) (row:Int) (ls:List (List Int)):Nat→List Part
 | 0=>List.replicate g.d.toNat (Tag.nil,[])
 | k+1=>(zif g row ls k).set (zde g row (k:Int)).toNat (Tag.fresh,ls.getD k [])
def zB2 (g:Geo) (row:Int) (ls:List (List Int)) (p q:List Int):List Part:=
 if (parP g row).2 < 0 then (zif g row ls g.width.toNat).set (parP g row).1.toNat (Tag.fresh,p)
 else ((zif g row ls g.width.toNat).set (parP g row).1.toNat (Tag.fresh,p)).set (parP g row).2.toNat (Tag.fresh,q)
theorem zfX (g:Geo) (row:Int) (ls:List (List Int)) (k:Nat):(zif g row ls k).length=g.d.toNat:=by
 induction k with
 | zero=>simp [zif]
 | succ k ih=>simp [zif,ih]
theorem zvB (g:Geo) (row:Int) (ls:List (List Int)) (k:Nat):∀ x∈zif g row ls k,Part.free x=true:=by
 induction k with
 | zero=>intro x hx; rw [(List.mem_replicate.1 hx).2]; rfl
 | succ k ih=>
  intro x hx;rcases List.mem_or_eq_of_mem_set hx with hx | hx
  ·exact ih x hx
  ·rw [hx]; rfl
theorem zr9 {ps:List Part} (h:∀ x∈ps,Part.free x=true) (i:Nat) (l:List Int):∀ x∈ps.set i (Tag.fresh,l),Part.free x=true:=by
 intro x hx;rcases List.mem_or_eq_of_mem_set hx with hx | hx
 ·exact h x hx
 ·rw [hx]; rfl
theorem zkK (t:Tag) (l:List D):D.isAgg (.sl t l)=false:=rfl
theorem zBc (n:Nat):pL (List.replicate n (Tag.nil,[]))=List.replicate n (D.sl .nil []):=by simp [pL,uL]
section
variable {g:Geo} {row:Int} (h:zcF g row=true)
include h
theorem zBd {ls:List (List Int)} {d:Int} (d0:0≤d) (d1:d < g.d) (h1:d≠(parP g row).1) (h2:d≠(parP g row).2):∀ k:Nat,(k:Int)≤g.width→
  (zif g row ls k)[d.toNat]? =some (if zgf g d row < k then (Tag.fresh,ls.getD (zgf g d row).toNat []) else (Tag.nil,[]))
 | 0,_=>by
  obtain ⟨c0,c1,c2⟩:=zpm h d0 d1 h1 h2;unfold zif
  rw [List.getElem?_replicate,if_pos (by omega),if_neg (by omega)]
 | k+1,hk=>by
  obtain ⟨c0,c1,c2⟩:=zpm h d0 d1 h1 h2
  have hdi:=zke h (k:=(k:Int)) (by omega) (by omega)
  have ih:=zBd (ls:=ls) d0 d1 h1 h2 k (by omega)
  unfold zif;rw [List.getElem?_set]
  by_cases e:zgf g d row=k
  ·have e2:zde g row k=d:=by rw [←e]; exact c2
   rw [if_pos (by rw [e2]),if_pos (by rw [zfX,e2]; omega),if_pos (by omega)]
   congr 3;rw [e]; rfl
  ·have e2:zde g row k≠d:=fun e2=>e (ztk h c0 c1 (by omega) (by omega) (by rw [c2,e2]))
   rw [if_neg (by omega),ih]
   by_cases hlt:zgf g d row < k
   ·rw [if_pos hlt,if_pos (by omega)]
   ·rw [if_neg hlt,if_neg (by omega)]
theorem zvC (ls:List (List Int)) (p q:List Int) (hp:p=sumP 32 ls) (hq:q=sumQ 32 ls∨g.l=5):zB2 g row ls p q=fP (zdp g row ls):=by
 obtain ⟨hk,r0,r1⟩:=zbH.1 h;have hw:=zbZ hk;obtain ⟨p0,p1,p2⟩:=ztl h;have hpq:=zGu h
 have hlen:(zB2 g row ls p q).length=g.d.toNat:=by unfold zB2; split<;>simp [zfX]
 apply List.ext_getElem?;intro i
 by_cases hi:i < g.d.toNat
 ·have hr:(fP (zdp g row ls))[i]? =some (Tag.fresh,atR g row ls i):=zvy (zmZ (by omega))
  rw [hr]
  have hbase:∀ d:Int,0≤d→d < g.d→d≠(parP g row).1→d≠(parP g row).2→(zif g row ls g.width.toNat)[d.toNat]? =some (Tag.fresh,atR g row ls d):=by
   intro d d0 d1 n1 n2;obtain ⟨c0,c1,c2⟩:=zpm h d0 d1 n1 n2
   rw [zBd h d0 d1 n1 n2 _ (by omega),if_pos (by omega)]
   unfold atR;rw [if_neg n1,if_neg n2]
  unfold zB2
  by_cases e1:(i:Int)=(parP g row).1
  ·have ha:atR g row ls i=p:=by rw [e1,at_p h,hp]
   rw [ha];split
   ·rw [List.getElem?_set,if_pos (by omega),if_pos (by rw [zfX]; omega)]
   ·rw [List.getElem?_set,if_neg (by omega),List.getElem?_set,if_pos (by omega),if_pos (by rw [zfX]; omega)]
  ·by_cases e2:(i:Int)=(parP g row).2
   ·have ha:atR g row ls i=sumQ 32 ls:=by rw [e2,at_q h]
    have h6:¬ (parP g row).2 < 0:=by omega
    rw [ha,if_neg h6,List.getElem?_set,if_pos (by omega),if_pos (by rw [List.length_set,zfX]; omega)]
    rcases hq with hq | hq
    ·rw [hq]
    ·rcases p2 with ⟨e,_⟩ | ⟨_,_,e⟩<;>omega
   ·have:=hbase i (by omega) (by omega) e1 e2
    rw [Int.toNat_natCast] at this;split
    ·rw [List.getElem?_set,if_neg (by omega),this]
    ·rw [List.getElem?_set,if_neg (by omega),List.getElem?_set,if_neg (by omega),this]
 ·rw [List.getElem?_eq_none (by omega),List.getElem?_eq_none (by simp [zqn]; omega)]
end
theorem zFO (t:Tag) (l:List Int):zau [.sl t (uL l)]=some (.bool (!decide (l.length=32))):=by
 rw [zpK,zdr];unfold zh7;simp only [zdM];congr 2
 by_cases h:l.length=32
 ·simp [h]
 ·simp [h]; omega
theorem zq2 (tg:Tag) (ps:List Part) (hn:ps.length < 100000):
  ∃ r,zal [.sl tg (pL ps),.fn ID.row_sectors_1 [] []]=some r∧∃ i:Int,r=.int .i64 i∧decide (i≥0)= !(ps.all fun x=>decide (x.2.length=32)):=by
 rw [zef,zdl]
 have hm:(ps.all fun x=>decide (x.2.length=32))=((ps.map fun x=>(zb6 x.1 x.2,x.2)).all fun x=>decide (x.2.length=32)):=by rw [List.all_map]; rfl
 have hlen:(ps.map fun x=>(zb6 x.1 x.2,x.2)).length=ps.length:=by simp
 rw [hm];rw [←hlen] at hn
 generalize (ps.map fun x=>(zb6 x.1 x.2,x.2))=rs at*
 unfold zcr
 refine zAH (fun a=>(rs.length:Nat) - a.1.2.2.1.toNat) (fun r=>∃ i:Int,r=D.int .i64 i∧decide (i≥0)= !(rs.all fun x=>decide (x.2.length=32)))
  (fun a=>∃ k:Nat,k≤rs.length∧((rs.take k).all fun x=>decide (x.2.length=32))=true∧a=((pL rs,(rs.length:Int),(k:Int),PUnit.unit),PUnit.unit)) ?_ ⟨0,by omega,by simp,by rw [ztU]; rfl⟩ (by simp; omega)
 rintro again _ ⟨k,hk,he,rfl⟩ hag
 dsimp only
 by_cases hkm:k < rs.length
 ·obtain ⟨x,hx⟩:∃ x,rs[k]? =some x:=⟨_,List.getElem?_eq_getElem hkm⟩
  have hd:decide ((k:Int) < (rs.length:Int))=true:=by simp; omega
  rw [hd,za0,zab (by omega),zaj (by simpa using zcW hx),zdY,zFO,zac,zcn]
  by_cases hf:x.2.length=32
  ·simp only [hf,decide_true,Bool.not_true,zat,zaH]
   rw [zah (by omega) (by omega)]
   refine hag _ ⟨k+1,by omega,?_,rfl⟩ (by simp; omega)
   rw [List.take_add_one,hx,List.all_append,he];simp [hf]
  ·simp only [hf,decide_false,Bool.not_false,za0];refine ⟨_,rfl,_,rfl,?_⟩
   have:(rs.all fun x=>decide (x.2.length=32))=false:=by
    rw [List.all_eq_false]
    exact ⟨x,List.mem_of_getElem? hx,by simp [hf]⟩
   rw [this];simp
 ·have hd:decide ((k:Int) < (rs.length:Int))=false:=by simp; omega
  rw [hd,zat];refine ⟨_,rfl,_,rfl,?_⟩
  rw [List.take_of_length_le (by omega)] at he
  rw [he];rfl
theorem row_sectors (tg:Tag) (ps:List Part) (hn:ps.length < 100000):zcy [.sl tg (pL ps)]=some (.bool (ps.all fun x=>decide (x.2.length=32))):=by
 rw [zrU,zdl]
 have hm:(ps.all fun x=>decide (x.2.length=32))=((ps.map fun x=>(zb6 x.1 x.2,x.2)).all fun x=>decide (x.2.length=32)):=by rw [List.all_map]; rfl
 have hlen:(ps.map fun x=>(zb6 x.1 x.2,x.2)).length=ps.length:=by simp
 rw [hm];rw [←hlen] at hn
 generalize (ps.map fun x=>(zb6 x.1 x.2,x.2))=rs at*
 unfold zkC
 have:zai [.sl .lent (pL rs),.fn ID.row_sectors_1 [] []]=some (.bool (!(rs.all fun x=>decide (x.2.length=32)))):=by
  rw [zd0,zdl]
  have hm:(rs.all fun x=>decide (x.2.length=32))=((rs.map fun x=>(zb6 x.1 x.2,x.2)).all fun x=>decide (x.2.length=32)):=by rw [List.all_map]; rfl
  have hlen:(rs.map fun x=>(zb6 x.1 x.2,x.2)).length=rs.length:=by simp
  rw [hm];rw [←hlen] at hn
  generalize (rs.map fun x=>(zb6 x.1 x.2,x.2))=qs at*
  unfold zcf;obtain ⟨r,h1,i,rfl,h2⟩:=zq2 .lent qs hn;rw [h1,zac,zaY,h2]
 rw [this,zac,zcn,Bool.not_not]
theorem zFP (g:Geo) (row:Int) (tg:Tag) {ps:List Part} (hn:ps.length < 100000):
  zdx [.agg [.int .i64 g.l,.int .i64 g.d,.int .i64 g.c],.int .i64 row,.sl tg (pL ps)]=some (solD (zwx g row (ps.map (·.2)))):=by
 rw [zw0,zdl]
 have hlen:(ps.map fun x=>(zb6 x.1 x.2,x.2)).length=ps.length:=by simp
 have hm:(ps.map fun x=>(zb6 x.1 x.2,x.2)).map (·.2)=ps.map (·.2):=by rw [List.map_map]; rfl
 rw [←hlen] at hn;rw [←hm]
 generalize (ps.map fun x=>(zb6 x.1 x.2,x.2))=rs at*
 clear hm hlen ps;unfold zqN zwx;cases h:zcF g row
 ·simp [zoL,h,solD]
 by_cases hl:(rs.length:Int)=g.width
 ·have hall:((rs.map (·.2)).all fun x=>decide (x.length=32))=(rs.all fun x=>decide (x.2.length=32)):=by rw [List.all_map]; rfl
  rw [hall]
  cases hs:(rs.all fun x=>decide (x.2.length=32))
  ·simp [zoL,h,solD,zm4,hl,row_sectors _ _ hn,hs]
  ·have hl':∀ x∈rs,x.2.length=32:=fun x hx=>by rw [List.all_eq_true] at hs; simpa using hs x hx
   rw [if_pos ⟨rfl,by simp [hl],rfl⟩]
   obtain ⟨hk,r0,r1⟩:=zbH.1 h;have hw:=zbZ hk;have hdd:=ok_d hk
   have hb:((((pL rs).length:Nat):Int) != g.width)=false:=by simp [hl]
   have hrl:rs.length=g.width.toNat:=by omega
   rw [zoL,zac,zcn,h,Bool.not_true,zat,zm4,zac,zaY,hb,zat,row_sectors _ _ hn,zac,zcn,hs,Bool.not_true,zat,zab (by omega),zab (by rfl),zab (by omega),zab (by omega),zab (by simp)]
   let st:Nat→(Int×List D×(Int×Int×Int×PUnit)×List D×List D×Int×Int×PUnit)×PUnit:=fun k=>((row,pL rs,(g.l,g.d,g.c,PUnit.unit),pL (zif g row (rs.map (·.2)) k),pL rs,((pL rs).length:Int),(k:Int),PUnit.unit),PUnit.unit)
   have hst:st 0=((row,pL rs,(g.l,g.d,g.c,PUnit.unit),List.replicate g.d.toNat (D.sl .nil []),pL rs,((pL rs).length:Int),0,PUnit.unit),PUnit.unit):=by
    simp only [st,zif,zBc]; rfl
   rw [←hst]
   refine zck st rs.length (by omega) ?_ ?_
   ·intro again k hk';dsimp only [st];obtain ⟨x,hx⟩:∃ x,rs[k]? =some x:=⟨_,List.getElem?_eq_getElem hk'⟩;have hxs:=hl' x (List.mem_of_getElem? hx)
    have hxe:rs[k]=x:=by rw [List.getElem?_eq_getElem hk'] at hx; exact Option.some.inj hx
    have hdi:=zke h (k:=(k:Int)) (by omega) (by omega)
    have hfl:=zfX g row (rs.map (·.2)) k
    obtain ⟨y,hy⟩:∃ y,(zif g row (rs.map (·.2)) k)[(zde g row (k:Int)).toNat]? =some y:=⟨_,List.getElem?_eq_getElem (by omega)⟩
    have hgd:(rs.map (·.2)).getD k []=x.2:=by simp [List.getD_eq_getElem?_getD,hx]
    have hgx:(pL rs)[k]? =some (.sl x.1 (uL x.2)):=zcW hx
    have hlt:(zde g row (k:Int)).toNat < g.d.toNat:=by omega
    simp (disch:=first | omega | assumption | (simp; done) | fail) [-List.all_eq_true,hk',zaj hgx,ztX,ztS (show x.2.length≤4294967296 by omega),hdi.1,hfl,hlt,zaj (zcW hy),zkK,zah,zru,zif]
    rw [hxe]
   ·intro again;dsimp only [st];obtain ⟨p0,p1,p2⟩:=ztl h
    have hfl:=zfX g row (rs.map (·.2)) rs.length
    obtain ⟨y,hy⟩:∃ y,(zif g row (rs.map (·.2)) rs.length)[(parP g row).1.toNat]? =some y:=⟨_,List.getElem?_eq_getElem (by omega)⟩
    have hrp:=zDY (n:=32) .lent (ps:=rs) (by omega) (by omega) (by omega) hl'
    have hrq:=zDZ (n:=32) .lent (ps:=rs) (by omega) (by omega) (by omega) hl'
    have hff:=zvC h (rs.map (·.2)) (sumP 32 (rs.map (·.2))) (sumQ 32 (rs.map (·.2))) rfl (.inl rfl)
    have hfree:=zr9 (zvB g row (rs.map (·.2)) rs.length) (parP g row).1.toNat (sumP 32 (rs.map (·.2)))
    have hfree2:=zr9 hfree (parP g row).2.toNat (sumQ 32 (rs.map (·.2)))
    have hlt:(parP g row).1.toNat < g.d.toNat:=by omega
    unfold zB2 at hff;rw [←hrl] at hff;rcases p2 with ⟨p2,_⟩ | ⟨q0,q1,_⟩
    ·rw [if_pos (by omega)] at hff
     have hq:¬ (0≤(parP g row).2):=by omega
     simp (disch:=first | omega | assumption | (simp; done) | fail) [-List.all_eq_true,zm3,hrp,p0,hfl,hlt,zaj (zcW hy),zkK,hq,zru,zmF hfree,solD,hff,zfW]
    ·rw [if_neg (by omega)] at hff
     have hlt2:(parP g row).2.toNat < g.d.toNat:=by omega
     obtain ⟨z,hz⟩:∃ z,((zif g row (rs.map (·.2)) rs.length).set (parP g row).1.toNat (Tag.fresh,sumP 32 (rs.map (·.2))))[(parP g row).2.toNat]? =some z:=⟨_,List.getElem?_eq_getElem (by simp [hfl]; omega)⟩
     simp (disch:=first | omega | assumption | (simp; done) | fail) [-List.all_eq_true,zm3,hrp,hrq,p0,q0,hfl,hlt,hlt2,zaj (zcW hy),zaj (zcW hz),zkK,zru,zmF hfree,zmF hfree2,solD,hff,zfW]
 ·have h2:¬ (true=true∧(((rs.map (·.2)).length:Nat):Int)=g.width∧((rs.map (·.2)).all fun x=>decide (x.length=32))=true):=by rintro ⟨_,e,_⟩; simp at e; exact hl e
  rw [if_neg h2];simp [zoL,h,solD,zm4,hl]
end Wf

namespace Wf
open Go Go.RowKit Go.Proofs
set_option linter.unusedSimpArgs false
set_option linter.unusedVariables false
set_option maxHeartbeats 4000000
def zgz (g:Geo) (row:Int) (rs:List Part) (k:Nat):List Part:=(List.range k).map fun (j:Nat)=>rs.getD (zde g row (j:Int)).toNat (.nil,[])
theorem zyN (g:Geo) (row:Int) (rs:List Part):(zgz g row rs g.width.toNat).map (·.2)=zgW g row (rs.map (·.2)):=by
 unfold zgz zgW;rw [List.map_map];apply List.map_congr_left;intro j _;simp [List.getD_eq_getElem?_getD];cases rs[(zde g row (j:Int)).toNat]? <;>rfl
theorem zw8 (g:Geo) (row:Int) (rs:List Part) {k:Nat} {x:Part} (h:rs[(zde g row (k:Int)).toNat]? =some x):zgz g row rs (k+1)=zgz g row rs k++[x]:=by
 unfold zgz;rw [List.range_succ,List.map_append];simp [List.getD_eq_getElem?_getD,h]
theorem zmG {R:Type} (a b:D) (f:LfT [.any,.any]→Option R):zaw [.any,.any] [a,b] f=f (a,b,()):=by rw [zda,zda,zem]
theorem zFQ (g:Geo) (row:Int) (tg:Tag) {ps:List Part} (hn:ps.length < 100000):
  zdw [.agg [.int .i64 g.l,.int .i64 g.d,.int .i64 g.c],.int .i64 row,.sl tg (pL ps)]=some (solD (zww g row (ps.map (·.2)))):=by
 rw [zwV,zdl]
 have hm:(ps.map fun x=>(zb6 x.1 x.2,x.2)).map (·.2)=ps.map (·.2):=by rw [List.map_map]; rfl
 have hlen:(ps.map fun x=>(zb6 x.1 x.2,x.2)).length=ps.length:=by simp
 rw [←hm];rw [←hlen] at hn
 generalize (ps.map fun x=>(zb6 x.1 x.2,x.2))=rs at*
 clear hm hlen ps;unfold zqH zww;cases h:zcF g row
 ·simp [zoL,h,solD]
 by_cases hl:(rs.length:Int)=g.d
 ·rw [if_pos ⟨rfl,by simp [hl]⟩]
  have hk:=(zbH.1 h).1;have hw:=zbZ hk;have hdd:=ok_d hk
  have hb:((((pL rs).length:Nat):Int) != g.d)=false:=by simp [hl]
  rw [zoL,zac,zcn,h,Bool.not_true,zat,hb,zat,zm4,zac,zaY]
  let st:Nat→(Int×List D×(Int×Int×Int×PUnit)×List D×Int×Int×PUnit)×PUnit:=fun k=>((row,pL rs,(g.l,g.d,g.c,PUnit.unit),pL (zgz g row rs k),g.width,(k:Int),PUnit.unit),PUnit.unit)
  have hst:st 0=((row,pL rs,(g.l,g.d,g.c,PUnit.unit),[],g.width,0,PUnit.unit),PUnit.unit):=rfl;rw [←hst]
  refine zck st g.width.toNat (by omega) ?_ ?_
  ·intro again k hk';dsimp only [st]
   have hd:(k:Int) < g.width:=by omega
   have hdi:=zke h (k:=(k:Int)) (by omega) (by omega)
   obtain ⟨x,hx⟩:∃ x,rs[(zde g row (k:Int)).toNat]? =some x:=⟨_,List.getElem?_eq_getElem (by omega)⟩
   have hpl:(zgz g row rs k).length=k:=by simp [zgz]
   simp (disch:=first | omega | assumption | (simp; done) | fail) [-List.all_eq_true,hd,ztX,hdi.1,zaj (zcW hx),hpl,zah,zDX,zw8 g row rs hx]
  ·intro again;dsimp only [st]
   have hd:¬ ((g.width.toNat:Nat):Int) < g.width:=by omega
   obtain ⟨p0,p1,p2⟩:=ztl h
   obtain ⟨xp,hxp⟩:∃ x,rs[(parP g row).1.toNat]? =some x:=⟨_,List.getElem?_eq_getElem (by omega)⟩
   have hpo:pOf g row (rs.map (·.2))=xp.2:=by unfold pOf; simp [List.getD_eq_getElem?_getD,hxp]
   have hrl:(zgz g row rs g.width.toNat).length < 100000:=by simp [zgz]; omega
   have hsol:=fun tq q=>zFK xp.1 tq .lent xp.2 q hrl
   rw [zyN] at hsol;rw [hpo];rcases p2 with ⟨p2,_⟩ | ⟨q0,q1,_⟩
   ·have hqo:qOf g row (rs.map (·.2))=[]:=by unfold qOf; rw [if_pos (by omega)]
    have hq:(parP g row).2 < 0:=by omega
    have hs:=hsol .nil []
    rw [show uL []=([]:List D) from rfl] at hs
    rw [hqo]
    simp (disch:=first | omega | assumption | (simp; done) | fail) [-List.all_eq_true,zqZ,hd,zm3,hq,p0,zaj (zcW hxp),hs]
    cases zpg xp.2 [] (zgW g row (rs.map (·.2)))<;>simp [-List.all_eq_true,solD,zfW]
   ·obtain ⟨xq,hxq⟩:∃ x,rs[(parP g row).2.toNat]? =some x:=⟨_,List.getElem?_eq_getElem (by omega)⟩
    have hqo:qOf g row (rs.map (·.2))=xq.2:=by unfold qOf; rw [if_neg (by omega)]; simp [List.getD_eq_getElem?_getD,hxq]
    have hq:¬ (parP g row).2 < 0:=by omega
    rw [hqo]
    simp (disch:=first | omega | assumption | (simp; done) | fail) [-List.all_eq_true,zqZ,hd,zm3,hq,p0,q0,zaj (zcW hxp),zaj (zcW hxq),hsol]
    cases zpg xp.2 xq.2 (zgW g row (rs.map (·.2)))<;>simp [-List.all_eq_true,solD,zfW]
 ·have h2:¬ (true=true∧(((rs.map (·.2)).length:Nat):Int)=g.d):=by rintro ⟨_,e⟩; simp at e; exact hl e
  rw [if_neg h2];simp [zoL,h,solD,hl]
theorem zFR (g:Geo) (row:Int) (tg:Tag) {ps:List Part} (hn:ps.length < 100000) (hs:∀ x∈ps,Sec x.2):
  zbI [.agg [.int .i64 g.l,.int .i64 g.d,.int .i64 g.c],.int .i64 row,.sl tg (pL ps)]=some (solD (zwx g row (ps.map (·.2)))):=by
 rw [zl2,zdl]
 have hlen:(ps.map fun x=>(zb6 x.1 x.2,x.2)).length=ps.length:=by simp
 have hm:(ps.map fun x=>(zb6 x.1 x.2,x.2)).map (·.2)=ps.map (·.2):=by rw [List.map_map]; rfl
 have hs':∀ x∈(ps.map fun x=>(zb6 x.1 x.2,x.2)),Sec x.2:=by intro x hx; obtain ⟨y,hy,rfl⟩:=List.mem_map.1 hx; exact hs y hy
 rw [←hlen] at hn;rw [←hm]
 generalize (ps.map fun x=>(zb6 x.1 x.2,x.2))=rs at*
 clear hm hlen hs ps;unfold zfG zwx
 have hsl:∀ x∈rs.map (·.2),Sec x:=by intro x hx; obtain ⟨y,hy,rfl⟩:=List.mem_map.1 hx; exact hs' y hy
 have hl':∀ x∈rs,x.2.length=32:=fun x hx=>(hs' x hx).len
 have hall:((rs.map (·.2)).all fun x=>decide (x.length=32))=true:=by rw [List.all_eq_true]; intro x hx; simpa using (hsl x hx).len
 cases h:zcF g row
 ·simp [ztY,h,solD]
 by_cases hl:(rs.length:Int)=g.width
 ·rw [if_pos ⟨rfl,by simp [hl],hall⟩]
  obtain ⟨hk,r0,r1⟩:=zbH.1 h;have hw:=zbZ hk;have hdd:=ok_d hk
  have hb:((((pL rs).length:Nat):Int) != g.width)=false:=by simp [hl]
  have hrl:rs.length=g.width.toNat:=by omega
  rw [ztY,zac,zcn,h,Bool.not_true,zat,zhB,zac,zaY,hb,zat,zab (by omega),zab (by rfl),zab (by omega),zab (by omega),zab (by simp)]
  let st:Nat→(Int×List D×(Int×Int×Int×PUnit)×List D×List D×Int×Int×PUnit)×PUnit:=fun k=>((row,pL rs,(g.l,g.d,g.c,PUnit.unit),pL (zif g row (rs.map (·.2)) k),pL rs,((pL rs).length:Int),(k:Int),PUnit.unit),PUnit.unit)
  have hst:st 0=((row,pL rs,(g.l,g.d,g.c,PUnit.unit),List.replicate g.d.toNat (D.sl .nil []),pL rs,((pL rs).length:Int),0,PUnit.unit),PUnit.unit):=by
   simp only [st,zif,zBc]; rfl
  rw [←hst]
  refine zck st rs.length (by omega) ?_ ?_
  ·intro again k hk';dsimp only [st];obtain ⟨x,hx⟩:∃ x,rs[k]? =some x:=⟨_,List.getElem?_eq_getElem hk'⟩;have hxs:=hl' x (List.mem_of_getElem? hx)
   have hxe:rs[k]=x:=by rw [List.getElem?_eq_getElem hk'] at hx; exact Option.some.inj hx
   have hdi:=zke h (k:=(k:Int)) (by omega) (by omega)
   have hfl:=zfX g row (rs.map (·.2)) k
   obtain ⟨y,hy⟩:∃ y,(zif g row (rs.map (·.2)) k)[(zde g row (k:Int)).toNat]? =some y:=⟨_,List.getElem?_eq_getElem (by omega)⟩
   have hgd:(rs.map (·.2)).getD k []=x.2:=by simp [List.getD_eq_getElem?_getD,hx]
   have hgx:(pL rs)[k]? =some (.sl x.1 (uL x.2)):=zcW hx
   have hlt:(zde g row (k:Int)).toNat < g.d.toNat:=by omega
   simp (disch:=first | omega | assumption | (simp; done) | fail) [-List.all_eq_true,hk',zaj hgx,zyM,hxs,hdi.1,hfl,hlt,zaj (zcW hy),zkK,zah,zru,zif]
   rw [hxe]
  ·intro again;dsimp only [st];obtain ⟨p0,p1,p2⟩:=ztl h
   have hfl:=zfX g row (rs.map (·.2)) rs.length
   obtain ⟨y,hy⟩:∃ y,(zif g row (rs.map (·.2)) rs.length)[(parP g row).1.toNat]? =some y:=⟨_,List.getElem?_eq_getElem (by omega)⟩
   have hrp:=zJY (n:=32) .lent (ps:=rs) (by omega) (by omega) (by omega) hl'
   have hrq:=zJZ (n:=32) .lent (ps:=rs) (by omega) (by omega) (by omega) hl'
   rw [zFM hsl] at hrp
   rw [zFN hsl (by simp; omega)] at hrq
   have hff:=zvC h (rs.map (·.2)) (sumP 32 (rs.map (·.2))) (sumQ 32 (rs.map (·.2))) rfl (.inl rfl)
   have hfree:=zr9 (zvB g row (rs.map (·.2)) rs.length) (parP g row).1.toNat (sumP 32 (rs.map (·.2)))
   have hfree2:=zr9 hfree (parP g row).2.toNat (sumQ 32 (rs.map (·.2)))
   have hlt:(parP g row).1.toNat < g.d.toNat:=by omega
   unfold zB2 at hff;rw [←hrl] at hff;rcases p2 with ⟨p2,_⟩ | ⟨q0,q1,_⟩
   ·rw [if_pos (by omega)] at hff
    have hq:¬ (0≤(parP g row).2):=by omega
    simp (disch:=first | omega | assumption | (simp; done) | fail) [-List.all_eq_true,zBb,hrp,p0,hfl,hlt,zaj (zcW hy),zkK,hq,zru,zmF hfree,solD,hff,zfW]
   ·rw [if_neg (by omega)] at hff
    have hlt2:(parP g row).2.toNat < g.d.toNat:=by omega
    obtain ⟨z,hz⟩:∃ z,((zif g row (rs.map (·.2)) rs.length).set (parP g row).1.toNat (Tag.fresh,sumP 32 (rs.map (·.2))))[(parP g row).2.toNat]? =some z:=⟨_,List.getElem?_eq_getElem (by simp [hfl]; omega)⟩
    simp (disch:=first | omega | assumption | (simp; done) | fail) [-List.all_eq_true,zBb,hrp,hrq,p0,q0,hfl,hlt,hlt2,zaj (zcW hy),zaj (zcW hz),zkK,zru,zmF hfree,zmF hfree2,solD,hff,zfW]
 ·have h2:¬ (true=true∧(((rs.map (·.2)).length:Nat):Int)=g.width∧((rs.map (·.2)).all fun x=>decide (x.length=32))=true):=by rintro ⟨_,e,_⟩; simp at e; exact hl e
  rw [if_neg h2];simp [ztY,h,solD,zhB,hl]
end Wf

namespace Wf
open Go Go.RowKit Go.Proofs
set_option linter.unusedSimpArgs false
set_option linter.unusedVariables false
set_option maxHeartbeats 4000000
theorem zeH (live:List Bool):D.lentL (live.map D.bool)=live.map D.bool:=by
 induction live with
 | nil=>rfl
 | cons x l ih=>simp [ih]
theorem zp1 (acts:Nat→List Act):∀ (n k:Nat) (B:Ben),runE (fun k B=>runA (acts k) B) k n B=runA ((List.range' k n).flatMap acts) B
 | 0,k,B=>rfl
 | n+1,k,B=>by
  rw [List.range'_succ,List.flatMap_cons,zn8]
  show (if (runA (acts k) B).1=0 then _ else _)=_
  rw [zp1 acts n (k+1)]
theorem zsa (a:Act) (B:Ben):runA [a] B=B.act a:=by
 rw [zlQ]
 by_cases h:(B.act a).1=0
 ·rw [if_pos h];show (0,(B.act a).2)=B.act a;rw [←h]
 ·rw [if_neg h]
section
variable {B:Ben} {d a e:Int} {x:List Int}
theorem zt0 {s:DS} (hd:B.is d=true) (hf:s.failed=(B.dk d).failed):(B.setD d s).failed e=B.failed e:=by
 unfold Ben.failed;rw [zzE];cases he:B.is e
 ·rfl
 ·rw [zge hd (zeI.1 he).1];split
  ·rename_i q; subst q; rw [hf]
  ·rfl
theorem zvD (B:Ben) (d a:Int) (x:List Int):(B.write d a x).2.n=B.n∧∀ e,(B.write d a x).2.failed e=B.failed e:=by
 unfold Ben.write;split
 ·exact ⟨rfl,fun _=>rfl⟩
 ·rename_i h0;have hd:=(may0.1 (Classical.not_not.1 h0)).1;split
  ·exact ⟨rfl,fun _=>rfl⟩
  ·split
   ·exact ⟨rfl,fun _=>rfl⟩
   ·exact ⟨by simp,fun e=>zt0 (B:=(B.junk _).less) hd rfl⟩
theorem zvE (hB:B.Ok) (d:Int):(B.flush d).2.n=B.n∧∀ e,(B.flush d).2.failed e=B.failed e:=by
 unfold Ben.flush;split
 ·exact ⟨rfl,fun _=>rfl⟩
 ·rename_i h0;have hd:=(may0.1 (Classical.not_not.1 h0)).1
  refine ⟨by simp,fun e=>zt0 hd ?_⟩
  unfold DS.flush;split
  ·rfl
  ·exact znF (zkc hB d).1
def Like (B B':Ben):Prop:=B'.n=B.n∧∀ e,B'.failed e=B.failed e
theorem Like.refl (B:Ben):Like B B:=⟨rfl,fun _=>rfl⟩
theorem Like.trans {A B C:Ben} (h1:Like A B) (h2:Like B C):Like A C:=⟨h2.1.trans h1.1,fun e=>(h2.2 e).trans (h1.2 e)⟩
theorem Like.up {B B':Ben} (h:Like B B') (live:List Bool) (e:Int):B'.up live e=B.up live e:=by unfold Ben.up; rw [h.1,h.2]
theorem zJc {B:Ben} {live:List Bool} {d:Int} (h:B.up live d=true):d < B.n:=by
 unfold Ben.up at h;simp only [Bool.and_eq_true,decide_eq_true_eq] at h;exact h.1
end
section
variable {T0 T1:Tb} {b:Nat} {idx:List Nat} {B:Ben}
theorem zrw (h:At T0 T1 b idx B) (hw:B.w≤999000) (tg:Tag) (live:List Bool) (g:Geo) (r:Int) (tg2:Tag) {ps:List Part} (hn:ps.length < 100000) (hs:∀ x∈ps,Sec x.2):
  zcc [.h kB b 0,.sl tg (live.map D.bool),.agg [.int .i64 g.l,.int .i64 g.d,.int .i64 g.c],.int .i64 r,.sl tg2 (pL ps)] [P0 T0 b idx B,P1 T1 idx B]=
   some (Ans.mk (.int .i64 (B.sWrite live g r (ps.map (·.2))).1) [] [P0 T0 b idx (B.sWrite live g r (ps.map (·.2))).2,P1 T1 idx (B.sWrite live g r (ps.map (·.2))).2]):=by
 rw [zqR,zeH,zdl]
 have hlen:(ps.map fun x=>(zb6 x.1 x.2,x.2)).length=ps.length:=by simp
 have hm:(ps.map fun x=>(zb6 x.1 x.2,x.2)).map (·.2)=ps.map (·.2):=by rw [List.map_map]; rfl
 have hs':∀ x∈(ps.map fun x=>(zb6 x.1 x.2,x.2)),Sec x.2:=by intro x hx; obtain ⟨y,hy,rfl⟩:=List.mem_map.1 hx; exact hs y hy
 rw [←hlen] at hn;rw [←hm]
 generalize (ps.map fun x=>(zb6 x.1 x.2,x.2))=rs at*
 clear hm hlen hs ps;unfold zi0 Ben.sWrite;have hfill:=zFP g r .lent hn
 cases hf:zwx g r (rs.map (·.2)) with
 | none=>
  rw [hf] at hfill
  simp [hfill,solD]
 | some o=>
  have hf0:=hf;unfold zwx at hf0;split at hf0
  rotate_left
  ·cases hf0
  rename_i hc;obtain ⟨hr,hlw,hall⟩:=hc;cases hf0
  have hR:Row g (rs.map (·.2)):=⟨hlw,by intro x hx; obtain ⟨y,hy,rfl⟩:=List.mem_map.1 hx; exact hs' y hy⟩
  generalize rs.map (·.2)=data at*
  rw [hf] at hfill;obtain ⟨hk,r0,r1⟩:=zbH.1 hr;have hdd:=ok_d hk
  rw [if_neg (by simp)]
  have hrl:=zqn g r data
  let acts:Nat→List Act:=fun d=>if B.up live d then [.w d (36+r) (atR g r data d)] else []
  have hacts:B.wActs live g r data=(List.range' 0 g.d.toNat).flatMap acts:=by unfold Ben.wActs; rw [List.range_eq_range']
  rw [hacts,←zp1]
  let st:Nat→Ben→(Nat×List D×Int×List D×Int×Int×PUnit)×List (List D)×List (List D)×PUnit:=fun k B'=>((b,live.map D.bool,r,pL (fP (zdp g r data)),(g.d.toNat:Int),(k:Int),PUnit.unit),P0 T0 b idx B',P1 T1 idx B',PUnit.unit)
  have hst:st 0 B=((b,live.map D.bool,r,pL (fP (zdp g r data)),(g.d.toNat:Int),0,PUnit.unit),P0 T0 b idx B,P1 T1 idx B,PUnit.unit):=rfl
  simp (disch:=first | omega | assumption | (simp; done) | fail) only [hfill,solD,zac,zc7,zmG,zbw,zcn,Bool.not_true,zat,zab,Nat.zero_add,Nat.le_refl,ztU,zD3,hrl]
  rw [←hst]
  refine zpj (fun k B'=>runA (acts k) B') (fun k B'=>Nx k B B'∧Like B B') st (fun y=>some (Ans.mk (.int .i64 y.1) [] [P0 T0 b idx y.2,P1 T1 idx y.2])) g.d.toNat (by omega) ⟨.rfl' h.ok (by omega),.refl B⟩ ?_ ?_ ?_
  ·rintro k B' hk' ⟨hx,hL⟩ he
   dsimp only [acts] at he ⊢
   have hsec:=zA0 hr hR (d:=(k:Int)) (by omega) (by omega)
   cases hu:B.up live (k:Int)
   ·exact ⟨hx.mono (by omega),hL⟩
   ·rw [if_pos rfl,zsa]
    exact ⟨(hx.trans (zAQ hx.ok (.inl hsec))).mono (by omega),hL.trans (zvD ..)⟩
  ·rintro again k B' hk' ⟨hx,hL⟩
   dsimp only [st];have hA:=h.nx hx;have hxw:=hx.w
   have hw':B'.w≤1000000:=by omega
   have hg:(pL (fP (zdp g r data)))[k]? =some (.sl .fresh (uL (atR g r data k))):=zcW (zvy (zmZ (by omega)))
   have hup:=zFF hA .lent live (d:=(k:Int)) (by omega)
   rw [hL.up] at hup
   by_cases hu:B.up live (k:Int)=true
   rotate_left
   ·have hu':B.up live (k:Int)=false:=by simpa using hu
    rw [hu'] at hup
    rw [show acts k=[] from if_neg hu]
    simp (disch:=first | omega | assumption | (simp; done) | fail) [hk',hrl,zaj hg,hup,zah,runA]
   ·rw [hu] at hup
    rw [show acts k=[.w k (36+r) (atR g r data k)] from if_pos hu,zsa]
    have hwr:=zHF hA hw' (k:Int) (36+r) .fresh (atR g r data k)
    by_cases he:(B'.write k (36+r) (atR g r data k)).1=0
    ·simp (disch:=first | omega | assumption | (simp; done) | fail) [hk',hrl,zaj hg,hup,zah,hwr,he,Ben.act]
    ·simp (disch:=first | omega | assumption | (simp; done) | fail) [hk',hrl,zaj hg,hup,zah,hwr,he,Ben.act]
  ·rintro again B' ⟨hx,hL⟩
   dsimp only [st];simp
theorem zrx (h:At T0 T1 b idx B) (hw:B.w≤999000) (tg:Tag) (live:List Bool):
  zcd [.h kB b 0,.sl tg (live.map D.bool)] [P0 T0 b idx B,P1 T1 idx B]=some (Ans.mk (.int .i64 (B.sFlush live).1) [] [P1 T1 idx (B.sFlush live).2]):=by
 rw [zqU,zeH];unfold zi1 Ben.sFlush
 let acts:Nat→List Act:=fun d=>if B.up live d then [.f d] else []
 have hacts:B.fActs live=(List.range' 0 B.ds.length).flatMap acts:=by unfold Ben.fActs; rw [List.range_eq_range']
 have hsm:=h.ok.small;rw [hacts,←zp1]
 let st:Nat→Ben→(Nat×List D×Int×Int×PUnit)×List (List D)×List (List D)×PUnit:=fun k B'=>((b,live.map D.bool,(B.ds.length:Int),(k:Int),PUnit.unit),P0 T0 b idx B,P1 T1 idx B',PUnit.unit)
 have hst:st 0 B=((b,live.map D.bool,(B.ds.length:Int),0,PUnit.unit),P0 T0 b idx B,P1 T1 idx B,PUnit.unit):=rfl;have hl:=zDU h;unfold Ben.n at hl
 simp (disch:=first | omega | assumption | (simp; done) | fail) only [hl,zac,zbu,zaY]
 rw [←hst]
 refine zpj (fun k B'=>runA (acts k) B') (fun k B'=>Nx 0 B B'∧Like B B'∧P0 T0 b idx B'=P0 T0 b idx B) st (fun y=>some (Ans.mk (.int .i64 y.1) [] [P1 T1 idx y.2])) B.ds.length (by omega) ⟨.rfl' h.ok (by omega),.refl B,rfl⟩ ?_ ?_ ?_
 ·rintro k B' hk' ⟨hx,hL,h0⟩ he
  dsimp only [acts] at he ⊢;cases hu:B.up live (k:Int)
  ·exact ⟨hx,hL,h0⟩
  ·rw [if_pos rfl,zsa]
   refine ⟨(hx.trans (zAR hx.ok)).mono (by omega),hL.trans (zvE hx.ok _),?_⟩
   show P0 T0 b idx (B'.flush k).2=_;rw [←h0];unfold Ben.flush;split<;>rfl
 ·rintro again k B' hk' ⟨hx,hL,h0⟩
  dsimp only [st];have hA:=h.nx hx;have hxw:=hx.w
  have hw':B'.w≤1000000:=by omega
  have hup:=zFF hA .lent live (d:=(k:Int)) (by omega)
  rw [hL.up,h0] at hup
  by_cases hu:B.up live (k:Int)=true
  rotate_left
  ·have hu':B.up live (k:Int)=false:=by simpa using hu
   rw [hu'] at hup
   rw [show acts k=[] from if_neg hu]
   simp (disch:=first | omega | assumption | (simp; done) | fail) [hk',hup,zah,runA]
  ·rw [hu] at hup
   rw [show acts k=[.f k] from if_pos hu,zsa]
   have hfl:=zHG hA hw' (k:Int);rw [h0] at hfl
   by_cases he:(B'.flush k).1=0
   ·simp (disch:=first | omega | assumption | (simp; done) | fail) [hk',hup,zah,hfl,he,Ben.act]
   ·simp (disch:=first | omega | assumption | (simp; done) | fail) [hk',hup,zah,hfl,he,Ben.act]
 ·rintro again B' ⟨hx,hL,h0⟩
  dsimp only [st];simp
end
end Wf

namespace Wf
open Go Go.RowKit Go.Proofs
set_option linter.unusedSimpArgs false
set_option linter.unusedVariables false
set_option maxHeartbeats 4000000
theorem zGz (l:List Int):(D.sl .fresh (uL l)).free=true:=by simp only [D.free,zr5]
theorem zD8 {p q:List Int} {ls o:List (List Int)} (h:zpg p q ls=some o):o.length=ls.length:=by
 unfold zpg at h;split at h
 ·cases h
 split at h
 ·cases h
 split at h
 ·cases h; simp [zdj]
 ·split at h
  ·cases h; simp [zdj]
  ·cases h; simp [zdj]
 ·cases h; simp [zdj]
theorem zFS {g:Geo} {r:Int} {ls o:List (List Int)} (h:zww g r ls=some o):o.length=g.width.toNat:=by
 unfold zww at h;split at h
 ·rw [zD8 h]; simp [zgW]
 ·cases h
theorem zD9 {g:Geo} {r j k:Int} (h:zcF g r=true) (j0:0≤j) (j1:j < g.width) (k0:0≤k) (k1:k < g.width) (e:numP g r j=numP g r k):j=k:=by
 have h1:=zGt h j0 j1;have h2:=zGt h k0 k1;rw [e,h2] at h1;injection h1 with h1 _;exact ztk h j0 j1 k0 k1 h1.symm
theorem zEa {g:Geo} {n:Int} (n0:0≤n) (n1:n < g.cap):numP g (rowG g n) (zds g n)=n:=by
 have hk:=ztj n0 n1;have hw:=zbZ hk;have hc:=(zdN.1 hk).2.2;rw [zAX] at n1;unfold numP rowG zds;generalize g.c=c at*;generalize g.width=w at*
 have hw:w=2∨w=3∨w=4∨w=5∨w=6∨w=7:=by omega
 rcases hc with rfl | rfl | rfl<;>rcases hw with rfl | rfl | rfl | rfl | rfl | rfl<;>omega
section
variable {T0 T1:Tb} {b:Nat} {idx:List Nat} {B:Ben}
theorem zHN {live:List Bool} {d a:Int} (hdn:B.down=false) (d0:0≤d) (hu:B.up live d=true) (a0:0≤a) (a1:a < 52):B.read d a=(B.cur d a,0):=by
 obtain ⟨h1,h2,_⟩:=zFm d0 hu;rw [zgF h1] at h2;unfold Ben.read
 rw [if_neg (by rw [may0.2 ⟨h1,hdn⟩]; simp)]
 unfold DS.read
 rw [if_neg (by rw [zn6.2 ⟨h2,a0,a1⟩]; simp)]
 rfl
theorem zEb {live:List Bool} {d:Int} (a:Int) (hdn:B.down=true) (d0:0≤d) (hu:B.up live d=true):B.read d a=([],6):=by
 obtain ⟨h1,h2,_⟩:=zFm d0 hu
 have hm:B.may d=6:=by unfold Ben.may; rw [h1,hdn]; rfl
 unfold Ben.read;rw [hm]; simp
def Ben.secP (B:Ben) (live:List Bool) (r:Int) (n k:Nat):List Part:=(List.range n).map fun (d:Nat)=>if d < k then (if B.up live d then (Tag.fresh,B.cur d (36+r)) else (Tag.nil,[])) else (Tag.nil,[])
theorem zFT (live:List Bool) (r:Int) (n:Nat):(B.secP live r n n).map (·.2)=B.secs live r n:=by
 unfold Ben.secP Ben.secs;rw [List.map_map];apply List.map_congr_left;intro d hd;have:=List.mem_range.1 hd;simp only [Function.comp_apply,if_pos this];split<;>rfl
@[simp] theorem zw9 (live:List Bool) (r:Int) (n k:Nat):(B.secP live r n k).length=n:=by simp [Ben.secP]
theorem zEc (live:List Bool) (r:Int) {n k:Nat} (hk:k < n) (hu:B.up live k=true):(B.secP live r n k).set k (Tag.fresh,B.cur k (36+r))=B.secP live r n (k+1):=by
 apply List.ext_getElem?;intro j;rw [List.getElem?_set];unfold Ben.secP
 by_cases hj:j < n
 ·by_cases hjk:k=j
  ·subst hjk; simp [hj,hu]
  ·rw [if_neg hjk];simp only [List.getElem?_map,List.getElem?_range hj,Option.map_some]
   by_cases h1:j < k
   ·simp only [if_pos h1,if_pos (show j < k+1 by omega)]
   ·simp only [if_neg h1,if_neg (show ¬ j < k+1 by omega)]
 ·have h1:k≠j:=by omega
  rw [if_neg h1,List.getElem?_eq_none (by simp; omega),List.getElem?_eq_none (by simp; omega)]
theorem zEd (live:List Bool) (r:Int) {n k:Nat} (hk:k < n) (hu:B.up live k=false):B.secP live r n k=B.secP live r n (k+1):=by
 unfold Ben.secP;apply List.map_congr_left;intro j hj
 by_cases h1:j < k
 ·simp only [if_pos h1,if_pos (show j < k+1 by omega)]
 ·by_cases hjk:j=k
  ·subst hjk; simp [hu]
  ·simp only [if_neg h1,if_neg (show ¬ j < k+1 by omega)]
theorem zEe (live:List Bool) (r:Int) (n:Nat):pL (B.secP live r n 0)=List.replicate n (D.sl .nil []):=by
 unfold Ben.secP pL;rw [List.map_map];apply List.ext_getElem?;intro j
 by_cases hj:j < n
 ·simp [hj,uL]
 ·rw [List.getElem?_eq_none (by simp; omega),List.getElem?_eq_none (by simp; omega)]
theorem zHO (live:List Bool) (r:Int) {n k:Nat} (hk:k < n):(B.secP live r n k)[k]? =some (Tag.nil,[]):=by unfold Ben.secP; simp [hk]
theorem zt1 (h:At T0 T1 b idx B) (hw:B.w≤1000000) (tg:Tag) (live:List Bool) (g:Geo) (r:Int):
  zcp [.h kB b 0,.sl tg (live.map D.bool),.agg [.int .i64 g.l,.int .i64 g.d,.int .i64 g.c],.int .i64 r] [P0 T0 b idx B,P1 T1 idx B]=
   some (Ans.mk (.tup [.sl .own (pL (fP (B.sRead live g r).1)),.int .i64 (B.sRead live g r).2]) [] []):=by
 rw [zrQ,zeH];unfold zkA Ben.sRead
 have hck:zao [.agg [.int .i64 g.l,.int .i64 g.d,.int .i64 g.c]]=some (.int .i64 (if g.ok then 0 else 1)):=zgt g.l g.d g.c
 cases hk:g.ok
 ·have hf:zcF g r=false:=by unfold zcF; rw [hk]; rfl
  rw [hk] at hck;simp [hck,hf]; rfl
 rw [hk] at hck
 by_cases r0:r < 0
 ·have hf:zcF g r=false:=by unfold zcF; rw [hk]; simp; omega
  simp [hck,hf,r0]; rfl
 by_cases r1:r≥16
 ·have hf:zcF g r=false:=by unfold zcF; rw [hk]; simp; omega
  simp [hck,hf,r0,show 16≤r by omega]; rfl
 have hr:zcF g r=true:=zbH.2 ⟨hk,by omega,by omega⟩
 have hdd:=ok_d hk
 rw [if_neg (by simp [hr])]
 have r1':¬ 16≤r:=by omega
 simp (disch:=first | omega | assumption | (simp; done) | fail) only [hck,if_true,zac,zaY,zhQ,zx7,zab,List.length_replicate,Nat.zero_add,Nat.le_refl]
 let st:Nat→(Nat×List D×Int×(Int×Int×Int×PUnit)×List D×Int×Int×PUnit)×List (List D)×List (List D)×PUnit:=fun k=>
  ((b,live.map D.bool,r,(g.l,g.d,g.c,PUnit.unit),pL (B.secP live r g.d.toNat k),((g.d.toNat:Nat):Int),(k:Int),PUnit.unit),P0 T0 b idx B,P1 T1 idx B,PUnit.unit)
 have hst:st 0=((b,live.map D.bool,r,(g.l,g.d,g.c,PUnit.unit),List.replicate g.d.toNat (D.sl .nil []),((g.d.toNat:Nat):Int),0,PUnit.unit),P0 T0 b idx B,P1 T1 idx B,PUnit.unit):=by
  simp only [st,zEe]; rfl
 rw [←hst]
 refine zgd (fun x=>g.d.toNat - x.1.2.2.2.2.2.2.1.toNat) (fun _=>_) (fun x=>∃ k:Nat,k≤g.d.toNat∧(B.down=true→∀ j:Nat,j < k→B.up live j=false)∧x=st k) ?_ ⟨0,by omega,fun _ j hj=>by omega,rfl⟩ (by simp [st]; omega)
 rintro again _ ⟨k,hk',hdn,rfl⟩ hag
 dsimp only [st]
 by_cases hlt:k < g.d.toNat
 ·have hup:=zFF h .lent live (d:=(k:Int)) (by omega)
  by_cases hu:B.up live (k:Int)=true
  ·rw [hu] at hup;cases hdo:B.down
   ·have hrd:=zA4 h hw (k:Int) (36+r)
    rw [zHN hdo (by omega) hu (by omega) (by omega)] at hrd
    have hg:=zHO (B:=B) live r hlt
    have:=hag (st (k+1)) ⟨k+1,by omega,fun e=>(by rw [hdo] at e; cases e),rfl⟩ (by simp [st]; omega)
    dsimp only [st] at this;rw [←zEc live r hlt hu] at this
    simp (disch:=first | omega | assumption | (simp; done) | fail) [hlt,hup,hrd,zah,zw9,zaj (zcW hg),zkK,zru]
    rw [show ((k+1:Nat):Int)=(k:Int)+1 by omega] at this
    simpa [hdo] using this
   ·have hrd:=zA4 h hw (k:Int) (36+r)
    rw [zEb (36+r) hdo (by omega) hu] at hrd
    have hany:(List.range g.d.toNat).any (fun (d:Nat)=>B.up live d)=true:=by
     rw [List.any_eq_true]; exact ⟨k,List.mem_range.2 hlt,hu⟩
    rw [hany]
    simp (disch:=first | omega | assumption | (simp; done) | fail) [hlt,hup,hrd,zah]
    rfl
  ·have hu':B.up live (k:Int)=false:=by simpa using hu
   rw [hu'] at hup
   have:=hag (st (k+1)) ⟨k+1,by omega,fun e j hj=>by
    by_cases ej:j=k
    ·subst ej; exact hu'
    ·exact hdn e j (by omega),rfl⟩ (by simp [st]; omega)
   dsimp only [st] at this;rw [←zEd live r hlt hu'] at this
   rw [show ((k+1:Nat):Int)=(k:Int)+1 by omega] at this
   simp (disch:=first | omega | assumption | (simp; done) | fail) [hlt,hup,zah]
   simpa using this
 ·have hke:k=g.d.toNat:=by omega
  have hno:¬ (B.down=true∧(List.range g.d.toNat).any (fun (d:Nat)=>B.up live d)=true):=by
   rintro ⟨e1,e2⟩
   rw [List.any_eq_true] at e2;obtain ⟨j,hj,hu⟩:=e2
   rw [hdn e1 j (by rw [hke]; exact List.mem_range.1 hj)] at hu; cases hu
  rw [if_neg hno]
  have htk:=zFQ g r .lent (ps:=B.secP live r g.d.toNat g.d.toNat) (by rw [zw9]; omega)
  rw [zFT] at htk;subst hke
  simp (disch:=first | omega | assumption | (simp; done) | fail) [-List.all_eq_true,zqZ,zw9,htk]
  cases zww g r (B.secs live r g.d.toNat) with
  | none=>simp [-List.all_eq_true,solD]; rfl
  | some o=>simp [-List.all_eq_true,solD,zfW]
def Ben.oneT (B:Ben) (live:List Bool) (g:Geo) (n:Int):Tag:=
 if (ofP g n).2.2=false then .nil
 else if B.up live (ofP g n).1 then .fresh
 else if (B.sRead live g (ofP g n).2.1).2≠0 then .nil
 else .fresh
theorem zB3 (h:At T0 T1 b idx B) (hw:B.w≤1000000) (tg:Tag) (live:List Bool) (g:Geo) (n:Int):
  zcK [.h kB b 0,.sl tg (live.map D.bool),.agg [.int .i64 g.l,.int .i64 g.d,.int .i64 g.c],.int .i64 n] [P0 T0 b idx B,P1 T1 idx B]=
   some (Ans.mk (.tup [.sl (B.oneT live g n) (uL (B.sOne live g n).1),.int .i64 (B.sOne live g n).2]) [] []):=by
 rw [ztM,zeH];unfold zmp Ben.sOne Ben.oneT;have hof:=zD6 g n
 by_cases hc:0≤n∧n < g.cap
 ·have ho:ofP g n=(zde g (rowG g n) (zds g n),rowG g n,true):=by unfold ofP; rw [if_pos hc]
  have hk:=ztj hc.1 hc.2;have hrf:=zpl hc.1 hc.2;have hr:zcF g (rowG g n)=true:=zbH.2 ⟨hk,hrf.1,hrf.2.1⟩;have hcol:0≤zds g n∧zds g n < g.width:=zHz hk (n / g.c);have hdi:=zke hr hcol.1 hcol.2;have hw2:=zbZ hk;rw [ho] at hof ⊢;have hup:=zFF h .lent live (d:=zde g (rowG g n) (zds g n)) hdi.1;have hrd:=zA4 h hw (zde g (rowG g n) (zds g n)) (36+rowG g n);have hsr:=zt1 h hw .lent live g (rowG g n);dsimp only at hof ⊢
  by_cases hu:B.up live (zde g (rowG g n) (zds g n))=true
  ·rw [hu] at hup
   simp (disch:=first | omega | assumption | (simp; done) | fail) [-List.all_eq_true,hof,hup,hrd,zah,hu,zGz]
  ·have hu':B.up live (zde g (rowG g n) (zds g n))=false:=by simpa using hu
   rw [hu'] at hup
   by_cases he:(B.sRead live g (rowG g n)).2=0
   ·have hlen:(B.sRead live g (rowG g n)).1.length=g.width.toNat:=by
     unfold Ben.sRead at he ⊢
     rw [if_neg (by simp [hr])] at he ⊢
     split
     ·rename_i hx; rw [if_pos hx] at he; exact absurd he (by decide)
     ·rename_i hx;rw [if_neg hx] at he
      cases ht:zww g (rowG g n) (B.secs live (rowG g n) g.d.toNat) with
      | none=>rw [ht] at he; exact absurd he (by decide)
      | some o=>exact zFS ht
    have hnums:=ztZ g (rowG g n)
    have hnd:zrB g (rowG g n)=numD g (rowG g n) g.width.toNat:=by unfold zrB; rw [if_pos hr]
    rw [hnd] at hnums;rw [he] at hsr
    simp (disch:=first | omega | assumption | (simp; done) | fail) only [hof,zac,zc7,zda,zem,zaY,zcn,Bool.not_true,zat,hup,zbu,hsr,zbw,zhQ,hnums,zab,Nat.zero_add,Nat.le_refl,zgx,hu',he,if_true,if_false,ne_eq,not_true_eq_false,Bool.false_eq_true,reduceCtorEq]
    generalize (B.sRead live g (rowG g n)).1=out at*
    let s2:Nat→(Int×List D×List D×Int×Int×PUnit)×List (List D)×List (List D)×PUnit:=fun j=>((n,pL (fP out),numD g (rowG g n) g.width.toNat,((g.width.toNat:Nat):Int),(j:Int),PUnit.unit),P0 T0 b idx B,P1 T1 idx B,PUnit.unit)
    show zca _ (s2 0)=_
    refine zck s2 (zds g n).toNat (by omega) ?_ ?_
    ·intro again j hj;dsimp only [s2]
     have hne:¬ numP g (rowG g n) j=n:=by
      intro e
      have:=zD9 hr (j:=(j:Int)) (k:=zds g n) (by omega) (by omega) hcol.1 hcol.2 (by rw [e,zEa hc.1 hc.2])
      omega
     have hgn:(numD g (rowG g n) g.width.toNat)[j]? =some (.int .i64 (numP g (rowG g n) j)):=zr6 g (rowG g n) g.width.toNat (by omega)
     have hlt:(j:Int) < ((g.width.toNat:Nat):Int):=by omega
     have hlt2:j < g.width.toNat:=by omega
     simp (disch:=first | omega | assumption | (simp; done) | fail) [-List.all_eq_true,hlt,hlt2,zgx,zaj hgn,hne,zah]
    ·intro again;dsimp only [s2]
     have hgn:(numD g (rowG g n) g.width.toNat)[(zds g n).toNat]? =some (.int .i64 (numP g (rowG g n) ((zds g n).toNat:Int))):=zr6 g (rowG g n) g.width.toNat (by omega)
     rw [show (((zds g n).toNat:Nat):Int)=zds g n by omega,zEa hc.1 hc.2] at hgn
     have hgo:(pL (fP out))[(zds g n).toNat]? =some (.sl .fresh (uL (out.getD (zds g n).toNat []))):=zw6 (by omega)
     rw [show (((zds g n).toNat:Nat):Int)=zds g n by omega]
     have hlt:zds g n < ((g.width.toNat:Nat):Int):=by omega
     have hlt2:(zds g n).toNat < g.width.toNat:=by omega
     simp (disch:=first | omega | assumption | (simp; done) | fail) [-List.all_eq_true,hlt,hlt2,hcol.1,zgx,zaj hgn,zaj hgo,hlen,zGz]
   ·simp (disch:=first | omega | assumption | (simp; done) | fail) [-List.all_eq_true,hof,hup,hsr,hu',he]
    rfl
 ·have ho:ofP g n=(0,0,false):=by unfold ofP; rw [if_neg hc]
  rw [ho] at hof ⊢;simp [hof];rfl
end
end Wf

namespace Wf
open Go Go.RowKit Go.Proofs
set_option linter.unusedSimpArgs false
set_option linter.unusedVariables false
set_option maxHeartbeats 4000000
def zz1 (w left:Int) (down:Bool) (hs:List D):List D:=[.int .i64 w,.int .i64 left,.bool down,.sl .own hs]
theorem zz2 (m k:Nat):((List.range k).map fun j=>hD (m+j))++[hD (m+k)]=(List.range (k+1)).map fun j=>hD (m+j):=by simp [List.range_succ]
theorem zB4 (l:List Nat):zdK (l.map hD)=true:=by simp only [zdK,List.all_map,List.all_eq_true]; intro i _; rfl
theorem zEf (l:List Nat):zgD 1 (l.map hD)=true:=by simp only [zgD,List.all_map,List.all_eq_true]; intro i _; rfl
theorem zuF {α:Type} (k:Nat) (a:α):List.replicate k a++[a]=List.replicate (k+1) a:=by
 rw [List.replicate_succ']
theorem zFU (T0 T1:Tb) {n:Int} (h0:1≤n) (h1:n≤8):
  zbL [.int .i64 n] [T0,T1]=some (Ans.mk (.tup [.h kB T0.length 0,.int .i64 0]) []
   [T0++[zz1 0 (-1) false ((List.range n.toNat).map fun j=>hD (T1.length+j))],T1++List.replicate n.toNat DS.new.cells]):=by
 rw [zuf];unfold zof
 have d1:decide (n < 1)=false:=by simp; omega
 have d2:decide (n > 8)=false:=by simp; omega
 rw [d1,zat,d2,zat,zs5]
 have hn:n=(n.toNat:Int):=by omega
 let st:Nat→(Nat×Int×Int×PUnit)×List (List D)×List (List D)×PUnit:=fun k=>
  ((T0.length,n,(k:Int),PUnit.unit),T0++[zz1 0 (-1) false ((List.range k).map fun j=>hD (T1.length+j))],T1++List.replicate k DS.new.cells,PUnit.unit)
 have h00:st 0=((T0.length,n,0,PUnit.unit),T0++[[D.own0 (D.int IntKind.i64 (0:Int)),D.own0 (D.int IntKind.i64 (-1:Int)),D.own0 (D.bool false),D.own0 (D.sl Tag.nil [])]],T1,PUnit.unit):=by
  simp [st,zz1,D.own0]
 rw [←h00]
 refine zcw st n.toNat (by omega) ?_ ?_
 ·intro again k hk;dsimp only [st]
  have hd:decide ((k:Int) < n)=true:=by simp; omega
  have hrow:(T0++[zz1 0 (-1) false ((List.range k).map fun j=>hD (T1.length+j))])[T0.length]? =some (zz1 0 (-1) false ((List.range k).map fun j=>hD (T1.length+j))):=by simp
  have hnew:=zJW (T1++List.replicate k DS.new.cells)
  have hl:(T1++List.replicate k DS.new.cells).length=T1.length+k:=by simp
  rw [hl,List.append_assoc,zuF] at hnew;rw [hd,za0,zaj hrow];unfold zz1 at hrow ⊢
  rw [zfz,zfz,zfz,zlM,zbw,hnew,zac,zbu,zcv,zbu,zab (by rfl),zab (by rfl),zaj hrow,zfz,zfz,zfz,zlM,zbw]
  rw [zab (by simp; omega),zab (by rfl),zab (by rfl),zs5,zzo hrow]
  have hset:=zhq hrow (List.set [D.int .i64 0,.int .i64 (-1),.bool false,.sl .own ((List.range k).map fun j=>hD (T1.length+j))] 3 .undef)
  have hsn:=zz2 T1.length k;unfold hD at hsn
  have hH:(List.map (fun j=>hD (T1.length+j)) (List.range k))++[D.h kD (T1.length+k) 0]=(List.range (k+1)).map fun j=>hD (T1.length+j):=hsn
  dsimp only
  rw [zaj hset,zab (by simp),hH,zab (by simp)]
  have e1:((List.range (k+1)).map fun j=>hD (T1.length+j))=((List.range (k+1)).map fun j=>T1.length+j).map hD:=by rw [List.map_map]; rfl
  rw [e1,zab (zB4 _),zab (zEf _),zs5,zaH,zah (by omega) (by omega),zc5 hset,←e1,List.set_set]
  simp [zz1]
 ·intro again;dsimp only [st]
  have hd:decide (((n.toNat:Nat):Int) < n)=false:=by simp; omega
  rw [hd,zat]
def nIdx (T1:Tb) (n:Nat):List Nat:=(List.range n).map fun j=>T1.length+j
def nT0 (T0 T1:Tb) (n:Nat):Tb:=T0++[bRow (Ben.new n) (nIdx T1 n)]
def nT1 (T1:Tb) (n:Nat):Tb:=T1++List.replicate n DS.new.cells
theorem zHP (T1:Tb) (n:Nat):((List.range n).map fun j=>hD (T1.length+j))=(nIdx T1 n).map hD:=by unfold nIdx; rw [List.map_map]; rfl
theorem zEg (T0 T1:Tb) {n:Nat} (h8:n≤8):At (nT0 T0 T1 n) (nT1 T1 n) T0.length (nIdx T1 n) (Ben.new n):=by
 refine ⟨by simp [nT0],?_,fun i hi=>?_,by simp [nIdx,Ben.new],zvl h8⟩
 ·unfold List.Nodup nIdx;rw [List.pairwise_map]
  exact List.Pairwise.imp (fun h e=>h (by omega)) (List.nodup_range (n:=n))
 ·unfold nIdx at hi;obtain ⟨j,hj,rfl⟩:=List.mem_map.1 hi;have:=List.mem_range.1 hj;simp [nT1]; omega
theorem zJd (T0 T1:Tb) (n:Nat):P0 (nT0 T0 T1 n) T0.length (nIdx T1 n) (Ben.new n)=nT0 T0 T1 n:=zDD (by unfold nT0; simp)
theorem zJe (T1:Tb) (n:Nat):P1 (nT1 T1 n) (nIdx T1 n) (Ben.new n)=nT1 T1 n:=by
 unfold P1;show putL _ _ _++[]=_;rw [List.append_nil]
 refine ztg fun j i c h1 h2=>?_
 have hj:j < n:=by have:=za8 h1; simpa [nIdx] using this
 have e1:i=T1.length+j:=by
  unfold nIdx at h1;rw [List.getElem?_map,List.getElem?_range hj] at h1;simpa using h1.symm
 have e2:c=DS.new.cells:=by
  have:(Ben.new n).ds.map DS.cells=List.replicate n DS.new.cells:=by unfold Ben.new; simp
  rw [this] at h2;rw [List.getElem?_replicate,if_pos hj] at h2;exact (Option.some.inj h2).symm
 subst e1 e2;unfold nT1
 rw [List.getElem?_append_right (by omega),show T1.length+j - T1.length=j by omega,List.getElem?_replicate,if_pos hj]
theorem zJf (T0 T1:Tb) {n:Nat} (h0:1≤n) (h8:n≤8):
  zbL [.int .i64 n] [T0,T1]=some (Ans.mk (.tup [.h kB T0.length 0,.int .i64 0]) [] [P0 (nT0 T0 T1 n) T0.length (nIdx T1 n) (Ben.new n),P1 (nT1 T1 n) (nIdx T1 n) (Ben.new n)]):=by
 rw [zFU T0 T1 (by omega) (by omega),zJd,zJe,Int.toNat_natCast,zHP]
 rfl
structure Still (B:Ben):Prop where
 ok:B.Ok
 down:B.down=false
 ds:∀ s∈B.ds,s.failed=false∧s.pend=[]
theorem Still.dk {B:Ben} (h:Still B) (d:Int):(B.dk d).failed=false∧(B.dk d).pend=[]:=by
 unfold Ben.dk
 cases e:B.ds[d.toNat]? with
 | none=>exact ⟨rfl,rfl⟩
 | some s=>exact h.ds s (List.mem_of_getElem? e)
theorem Still.failed {B:Ben} (h:Still B) (d:Int):B.failed d=false:=by unfold Ben.failed; rw [(h.dk d).1,Bool.and_false]
theorem zyO {n:Nat} (h:n≤8):Still (Ben.new n):=⟨zvl h,rfl,fun s hs=>by
 unfold Ben.new at hs;rw [(List.mem_replicate.1 hs).2]; exact ⟨rfl,rfl⟩⟩
theorem zJg (n:Nat) (d:Int):(Ben.new n).dk d=DS.new:=by
 unfold Ben.dk Ben.new;dsimp only;rw [List.getElem?_replicate];split<;>rfl
theorem zFV {a:Nat} (ha:a < 52):DS.new.base a=zen:=by
 unfold DS.base;show ((List.replicate 1664 (0:Int)).drop (a*32)).take 32=_;rw [List.drop_replicate,List.take_replicate];unfold zen;congr 1;omega
theorem zHQ (n:Nat) (d:Int) {a:Int} (a0:0≤a) (a1:a < 52):(Ben.new n).cur d a=zen:=by
 unfold Ben.cur;rw [zJg];show look [] a (DS.new.base a.toNat)=_
 rw [zpi,zFV (by omega)]
section
variable {B:Ben} {d a:Int} {x:List Int}
theorem zyP (h:Still B) (hx:Sec x):Still (B.damage d a x).2∧(B.damage d a x).2.n=B.n∧(B.damage d a x).2.w=B.w∧(B.damage d a x).2.left=B.left:=by
 refine ⟨⟨(zye h.ok (.inl hx)).ok,?_,?_⟩,(zye (d:=d) (a:=a) h.ok (.inl hx)).n,?_,?_⟩
 ·unfold Ben.damage; split<;>exact h.down
 ·unfold Ben.damage;split
  ·intro s hs;rcases List.mem_or_eq_of_mem_set hs with hs | hs
   ·exact h.ds s hs
   ·subst hs;unfold DS.damage;dsimp only;split
    ·exact h.dk d
    ·exact h.dk d
  ·exact h.ds
 ·unfold Ben.damage; split<;>rfl
 ·unfold Ben.damage; split<;>rfl
theorem zB5 (h:Still B) (hd:B.is d=true) (a0:0≤a) (a1:a < 52) (hx:Sec x) {e b:Int} (e0:0≤e) (b0:0≤b) (b1:b < 52):
  (B.damage d a x).1=0∧(B.damage d a x).2.cur e b=if e=d∧b=a then x else B.cur e b:=by
 have hk:=h.dk d;have hw:(B.dk d).mayW a x=0:=zzC (zn6.2 ⟨hk.1,a0,a1⟩) hx.len
 have e1:(B.dk d).damage a x=(0,(B.dk d).setSec a.toNat x):=by unfold DS.damage; rw [hw,if_pos rfl]
 unfold Ben.damage;rw [if_pos hd,e1];refine ⟨rfl,?_⟩;unfold Ben.cur;rw [zge hd e0]
 by_cases he:e=d
 ·subst he;rw [if_pos rfl];have hp:((B.dk e).setSec a.toNat x).pend=[]:=hk.2;unfold DS.sec
  rw [hp,hk.2,zpi,zpi,ztd (zkc h.ok e).1.len (by omega) hx.len b.toNat (by omega)]
  by_cases hb:b=a
  ·rw [if_pos (by omega),if_pos ⟨rfl,hb⟩]
  ·rw [if_neg (by omega),if_neg (fun q=>hb q.2)]
 ·rw [if_neg he,if_neg (fun q=>he q.1)]
end
def Ben.dmgs (B:Ben) (a:Int) (xs:List (List Int)):Nat→Ben
 | 0=>B
 | k+1=>((B.dmgs a xs k).damage (k:Int) a (xs.getD k [])).2
def rowL (g:Geo) (l:List Int) (r:Nat):List (List Int):=secL (l.drop (min r l.length)) g.width.toNat
theorem zsb {g:Geo} (hk:g.ok=true) (l:List Int) (r:Nat):Row g (rowL g l r):=⟨by have:=zbZ hk; simp [rowL]; omega,zBa _ _⟩
def zmH (gs:Nat→Geo) (l:List Int) (n:Nat):Nat→Ben
 | 0=>.new n
 | r+1=>(zmH gs l n r).dmgs (36+(r:Int)) (zdp (gs r) r (rowL (gs r) l r)) (min (gs r).d.toNat n)
structure Filld (gs:Nat→Geo) (l:List Int) (n:Nat) (R:Nat) (B:Ben):Prop where
 still:Still B
 num:B.n=n
 w:B.w=0
 left:B.left= -1
 cur:∀ d a:Int,0≤d→0≤a→a < 52→B.cur d a=if 36≤a∧a < 36+R∧d < (gs (a - 36).toNat).d∧d < n then atR (gs (a - 36).toNat) (a - 36) (rowL (gs (a - 36).toNat) l (a - 36).toNat) d else zen
theorem zt2 {g:Geo} {r:Int} {data:List (List Int)} {d:Nat} (h:(d:Int) < g.d):(zdp g r data).getD d []=atR g r data d:=by
 rw [List.getD_eq_getElem?_getD,zmZ h]; rfl
theorem zq3 {gs:Nat→Geo} {l:List Int} {n R:Nat} {B:Ben} (h:Filld gs l n R B) (hR:R < 16) (hk:(gs R).ok=true):∀ k,k≤min (gs R).d.toNat n→
  Still (B.dmgs (36+(R:Int)) (zdp (gs R) R (rowL (gs R) l R)) k)∧(B.dmgs (36+(R:Int)) (zdp (gs R) R (rowL (gs R) l R)) k).n=n∧(B.dmgs (36+(R:Int)) (zdp (gs R) R (rowL (gs R) l R)) k).w=0∧(B.dmgs (36+(R:Int)) (zdp (gs R) R (rowL (gs R) l R)) k).left= -1∧
  ∀ d a:Int,0≤d→0≤a→a < 52→(B.dmgs (36+(R:Int)) (zdp (gs R) R (rowL (gs R) l R)) k).cur d a=if a=36+R∧d < k then atR (gs R) R (rowL (gs R) l R) d else B.cur d a
 | 0,_=>⟨h.still,h.num,h.w,h.left,fun d a d0 a0 a1=>by rw [if_neg (by omega)]; rfl⟩
 | k+1,hk'=>by
  obtain ⟨i1,i2,i3,i4,i5⟩:=zq3 h hR hk k (by omega)
  have hr:zcF (gs R) (R:Int)=true:=zbH.2 ⟨hk,by omega,by omega⟩
  have hsec:=zA0 hr (zsb hk l R) (d:=(k:Int)) (by omega) (by omega)
  have hg:=zt2 (g:=gs R) (r:=R) (data:=rowL (gs R) l R) (d:=k) (by omega)
  generalize hB:B.dmgs (36+(R:Int)) (zdp (gs R) R (rowL (gs R) l R)) k=C at*
  have hC:B.dmgs (36+(R:Int)) (zdp (gs R) R (rowL (gs R) l R)) (k+1)=(C.damage (k:Int) (36+(R:Int)) (atR (gs R) R (rowL (gs R) l R) k)).2:=by
   show ((B.dmgs (36+(R:Int)) (zdp (gs R) R (rowL (gs R) l R)) k).damage (k:Int) (36+(R:Int)) ((zdp (gs R) R (rowL (gs R) l R)).getD k [])).2=_;rw [hB,hg]
  rw [hC]
  have hd:C.is (k:Int)=true:=zeI.2 ⟨by omega,by rw [i2]; omega⟩
  obtain ⟨j1,j2,j3,j4⟩:=zyP (d:=(k:Int)) (a:=36+(R:Int)) i1 hsec
  refine ⟨j1,j2.trans i2,j3.trans i3,j4.trans i4,fun d a d0 a0 a1=>?_⟩
  rw [(zB5 i1 hd (by omega) (by omega) hsec d0 a0 a1).2,i5 d a d0 a0 a1]
  by_cases ha:a=36+(R:Int)
  ·by_cases hdk:d=k
   ·subst hdk; rw [if_pos ⟨rfl,ha⟩,if_pos ⟨ha,by omega⟩]
   ·rw [if_neg (fun q=>hdk q.1)]
    by_cases hlt:d < k
    ·rw [if_pos ⟨ha,hlt⟩,if_pos ⟨ha,by omega⟩]
    ·rw [if_neg (fun q=>hlt q.2),if_neg (fun q=>by omega)]
  ·rw [if_neg (fun q=>ha q.2),if_neg (fun q=>ha q.1),if_neg (fun q=>ha q.1)]
theorem zmI {gs:Nat→Geo} {l:List Int} {n:Nat} (n8:n≤8) (hk:∀ r,(gs r).ok=true):∀ R,R≤16→Filld gs l n R (zmH gs l n R)
 | 0,_=>⟨zyO n8,by simp [zmH,Ben.new,Ben.n],rfl,rfl,fun d a d0 a0 a1=>by rw [if_neg (by omega)]; exact zHQ n d a0 a1⟩
 | R+1,hR=>by
  have ih:=zmI (l:=l) n8 hk R (by omega)
  obtain ⟨i1,i2,i3,i4,i5⟩:=zq3 ih (by omega) (hk R) (min (gs R).d.toNat n) (Nat.le_refl _)
  refine ⟨i1,i2,i3,i4,fun d a d0 a0 a1=>?_⟩
  show ((zmH gs l n R).dmgs (36+(R:Int)) (zdp (gs R) R (rowL (gs R) l R)) (min (gs R).d.toNat n)).cur d a=_;rw [i5 d a d0 a0 a1,ih.cur d a d0 a0 a1];have hdd:=ok_d (hk R)
  by_cases ha:a=36+(R:Int)
  ·have e:(a - 36).toNat=R:=by omega
   have e2:a - 36=(R:Int):=by omega
   rw [e,e2]
   by_cases hlt:d < (gs R).d∧d < n
   ·rw [if_pos ⟨ha,by omega⟩,if_pos ⟨by omega,by omega,hlt.1,hlt.2⟩]
   ·rw [if_neg (fun q=>hlt ⟨by omega,by omega⟩),if_neg (fun q=>by omega),if_neg (fun q=>hlt ⟨q.2.2.1,q.2.2.2⟩)]
  ·rw [if_neg (fun q=>ha q.1)]
   by_cases hc:36≤a∧a < 36+(R:Int)∧d < (gs (a - 36).toNat).d∧d < n
   ·rw [if_pos hc,if_pos ⟨hc.1,by omega,hc.2.2.1,hc.2.2.2⟩]
   ·rw [if_neg hc,if_neg (fun q=>hc ⟨q.1,by omega,q.2.2.1,q.2.2.2⟩)]
end Wf

namespace Wf
open Go Go.RowKit Go.Proofs
set_option linter.unusedSimpArgs false
set_option linter.unusedVariables false
set_option maxHeartbeats 4000000
theorem zEh (l:List Int) (n:Nat):(intL l).drop n=intL (l.drop n):=by simp [intL,List.map_drop]
theorem zvF (l:List Int):zsN 1 (intL l)=true:=by simp [zsN,intL,D.cell,D.width]
theorem zyQ (l:List Int) (r:Int) (r0:0≤r):cutI (min r (l.length:Int)) (l.length:Int) (intL l)=intL (l.drop (min r.toNat l.length)):=by
 unfold cutI
 have:(min r (l.length:Int)).toNat=min r.toNat l.length:=by omega
 rw [this,zEh,List.take_of_length_le (by rw [zgv]; simp; omega)]
theorem zEi (g:Geo) (hk:g.ok=true) (r:Int) (r0:0≤r) (tg:Tag) (l:List Int):
  zby [.agg [.int .i64 g.l,.int .i64 g.d,.int .i64 g.c],.int .i64 r,.sl tg (intL l)]=some (.sl .own (pL (fP (rowL g l r.toNat)))):=by
 rw [zmC,zpa];unfold zfS;have hw:=zbZ hk
 have hsp:=fun tg=>zrv tg (l.drop (min r.toNat l.length)) (n:=g.width.toNat) (by omega)
 rw [show ((g.width.toNat:Nat):Int)=g.width by omega] at hsp
 have hm1:0≤min r (l.length:Int):=by omega
 have hm2:min r (l.length:Int)≤(l.length:Int):=by omega
 have hfree:=zfW (rowL g l r.toNat);unfold rowL at hfree ⊢
 simp (disch:=first | omega | assumption | (simp; done) | fail) [-List.all_eq_true,zgv,hm1,hm2,zvF,zhB,zyQ l r r0,hsp,hfree]
section
variable {T0 T1:Tb}
theorem zJh {g:Geo} (hk:g.ok=true) {n:Nat} (n0:1≤n) (n8:n≤8) (tg:Tag) (l:List Int):
  zbh [.agg [.int .i64 g.l,.int .i64 g.d,.int .i64 g.c],.int .i64 n,.sl tg (intL l)] [T0,T1]=
   some (Ans.mk (.h kB T0.length 0) [] [P0 (nT0 T0 T1 n) T0.length (nIdx T1 n) (zmH (fun _=>g) l n 16),P1 (nT1 T1 n) (nIdx T1 n) (zmH (fun _=>g) l n 16)]):=by
 rw [zkr,zpa];unfold zeS;have hat0:=zEg T0 T1 n8;have hnew:=zJf T0 T1 n0 n8;generalize nT0 T0 T1 n=U0 at*;generalize nT1 T1 n=U1 at*;generalize nIdx T1 n=idx at*;have hw:=zbZ hk;have hdd:=ok_d hk
 have hF:=fun R hR=>zmI (gs:=fun _=>g) (l:=l) n8 (fun _=>hk) R hR
 have hat:∀ B:Ben,B.Ok→B.n=n→At U0 U1 T0.length idx B:=fun B hB hn=>⟨hat0.b,hat0.nd,hat0.lt,by rw [hat0.len]; unfold Ben.n at hn; simp [Ben.new]; omega,hB⟩
 simp (disch:=first | omega | assumption | (simp; done) | fail) only [hnew,zac,zbu,zcv,zc7,zmG,zaY,zhQ,zDg,zat,show zhO (D.h kB T0.length 0)=true from rfl,zab]
 let st:Nat→(Int×List D×(Int×Int×Int×PUnit)×D×Int×PUnit)×List (List D)×List (List D)×PUnit:=fun r=>(((n:Int),intL l,(g.l,g.d,g.c,PUnit.unit),.h kB T0.length 0,(r:Int),PUnit.unit),P0 U0 T0.length idx (zmH (fun _=>g) l n r),P1 U1 idx (zmH (fun _=>g) l n r),PUnit.unit)
 show zca _ (st 0)=_
 refine zck st 16 (by omega) ?_ ?_
 ·intro again r hr;dsimp only [st]
  have hfine:zcF g (r:Int)=true:=zbH.2 ⟨hk,by omega,by omega⟩
  have hm1:0≤min (r:Int) (l.length:Int):=by omega
  have hm2:min (r:Int) (l.length:Int)≤(l.length:Int):=by omega
  have hsp:=fun tg=>zrv tg (l.drop (min r l.length)) (n:=g.width.toNat) (by omega)
  rw [show ((g.width.toNat:Nat):Int)=g.width by omega] at hsp
  have hc:=zyQ l (r:Int) (by omega)
  rw [Int.toNat_natCast] at hc
  have hfill:=zFR g (r:Int) .lent (ps:=fP (rowL g l r)) (by simp [rowL]; omega) (by intro x hx; obtain ⟨y,hy,rfl⟩:=List.mem_map.1 hx; exact zBa _ _ y hy)
  rw [zyI,zlU hfine (zsb hk l r)] at hfill;have hrl:=zqn g (r:Int) (rowL g l r)
  have hr16:(r:Int) < 16:=by omega
  unfold rowL at hfill
  simp (disch:=first | omega | assumption | (simp; done) | fail) only [zzp,zaH,zgv,zab,zvF,zhB,zac,zaY,hc,hsp,zbw,zdL,Nat.zero_add,Nat.le_refl,hfill,solD,zc7,zmG,zcn]
  have hxs:secL (l.drop (min r l.length)) g.width.toNat=rowL g l r:=rfl;rw [hxs]
  have hFr:=hF r (by omega)
  have hdm:=fun k hk'=>zq3 (gs:=fun _=>g) hFr hr hk k hk'
  have hnx:zmH (fun _=>g) l n (r+1)=(zmH (fun _=>g) l n r).dmgs (36+(r:Int)) (zdp g r (rowL g l r)) (min g.d.toNat n):=rfl
  rw [hnx]
  generalize zmH (fun _=>g) l n r=B at*
  have h0:∀ k,k≤min g.d.toNat n→P0 U0 T0.length idx (B.dmgs (36+(r:Int)) (zdp g r (rowL g l r)) k)=P0 U0 T0.length idx B:=by
   intro k hk'
   induction k with
   | zero=>rfl
   | succ k ih=>
    rw [←ih (by omega)]
    show P0 U0 T0.length idx ((B.dmgs (36+(r:Int)) (zdp g r (rowL g l r)) k).damage _ _ _).2=_;unfold Ben.damage;split<;>rfl
  let s2:Nat→(Int×List D×(Int×Int×Int×PUnit)×D×Int×List D×Bool×Int×PUnit)×List (List D)×List (List D)×PUnit:=fun k=>
   (((n:Int),intL l,(g.l,g.d,g.c,PUnit.unit),.h kB T0.length 0,(r:Int),pL (fP (zdp g r (rowL g l r))),true,(k:Int),PUnit.unit),P0 U0 T0.length idx B,P1 U1 idx (B.dmgs (36+(r:Int)) (zdp g r (rowL g l r)) k),PUnit.unit)
  show zca _ (s2 0)=_
  refine zck s2 (min g.d.toNat n) (by omega) ?_ ?_
  ·intro again2 k hk';dsimp only [s2]
   obtain ⟨i1,i2,i3,i4,i5⟩:=hdm k (by omega)
   have hA:=hat _ i1.ok i2
   have hg:(pL (fP (zdp g r (rowL g l r))))[k]? =some (.sl .fresh (uL (atR g r (rowL g l r) k))):=zcW (zvy (zmZ (by omega)))
   have hb:=zFG hA (by omega) (k:Int) (a:=36+(r:Int)) (by intro w hw; rw [(i1.dk _).2] at hw; cases hw) .fresh (atR g r (rowL g l r) k)
   rw [h0 k (by omega)] at hb
   have hgd:(zdp g r (rowL g l r)).getD k []=atR g r (rowL g l r) k:=zt2 (by omega)
   have h1:(k:Int) < ((g.d.toNat:Nat):Int):=by omega
   have h2:(k:Int) < (n:Int):=by omega
   have h3:k < g.d.toNat:=by omega
   simp (disch:=first | omega | assumption | (simp; done) | fail) [hrl,h1,h2,h3,zaj hg,hb,zah]
   rw [←hgd]; rfl
  ·intro again2;dsimp only [s2];rw [h0 _ (Nat.le_refl _)]
   by_cases h1:min g.d.toNat n < g.d.toNat
   ·have h2:¬ ((min g.d.toNat n:Nat):Int) < (n:Int):=by omega
    have h1':((min g.d.toNat n:Nat):Int) < ((g.d.toNat:Nat):Int):=by omega
    simp (disch:=first | omega | assumption | (simp; done) | fail) only [za0,hrl,ztU,zD3,zab,Nat.zero_add,Nat.le_refl,zzp,zx7,zx8]
    rw [zah (by omega) (by omega)]; rfl
   ·have h1':¬ ((min g.d.toNat n:Nat):Int) < ((g.d.toNat:Nat):Int):=by omega
    simp (disch:=first | omega | assumption | (simp; done) | fail) only [za0,hrl,ztU,zD3,zab,Nat.zero_add,Nat.le_refl,zx7,zx8]
    rw [zah (by omega) (by omega)]; rfl
 ·intro again;dsimp only [st]
  simp (disch:=first | omega | assumption | (simp; done) | fail) only [zx7,show (D.h kB T0.length 0).free=true from rfl,zab]
end
end Wf

namespace Wf
open Go Go.RowKit Go.Proofs
set_option linter.unusedSimpArgs false
set_option linter.unusedVariables false
set_option maxHeartbeats 4000000
theorem zEj {p:Nat→Bool} {a n:Nat} (h:∀ i,i < n→p i=true→i=a):(List.range n).countP p≤1:=by
 have:∀ n,(∀ i,i < n→p i=true→i=a)→(List.range n).countP p≤if a < n then 1 else 0:=by
  intro n
  induction n with
  | zero=>simp
  | succ n ih=>
   intro h
   have ih:=ih fun i hi hp=>h i (by omega) hp
   rw [List.range_succ,List.countP_append,List.countP_singleton]
   by_cases hp:p n=true
   ·rw [if_pos hp]
    have e:=h n (by omega) hp
    subst e; rw [if_neg (by omega)] at ih; rw [if_pos (by omega)]; omega
   ·rw [if_neg hp];split at ih<;>split<;>omega
 have:=this n h;split at this<;>omega
section
variable {B:Ben} {d a:Int}
theorem zFW (hd:B.is d=true) {e b:Int} (e0:0≤e) (hne:e≠d):(B.fail d).2.cur e b=B.cur e b:=by
 unfold Ben.fail;rw [if_pos hd];unfold Ben.cur;rw [zge hd e0,if_neg hne]
theorem zz3 (hd:B.is d=true) {e:Int} (he:B.is e=true):(B.fail d).2.failed e=(decide (e=d) || B.failed e):=by
 unfold Ben.fail;rw [if_pos hd];unfold Ben.failed;rw [zzE,he,zge hd (zeI.1 he).1]
 by_cases h:e=d
 ·subst h; rw [if_pos rfl,show DS.dead.failed=true from rfl]; simp
 ·rw [if_neg h]; simp [h]
theorem zEk (hd:B.is d=true):(B.fail d).1=0∧(B.fail d).2.n=B.n∧(B.fail d).2.down=B.down∧(B.fail d).2.left=B.left∧(B.fail d).2.w=B.w:=by
 unfold Ben.fail;rw [if_pos hd]
 exact ⟨rfl,by simp,rfl,rfl,rfl⟩
end
theorem zFX {n:Nat} {d:Int} (d0:0≤d):((List.replicate n true)[d.toNat]?).getD false=decide (d < n):=by
 rw [List.getElem?_replicate]
 by_cases h:d < n
 ·rw [if_pos (by omega)]; simp [h]
 ·rw [if_neg (by omega)]; simp [h]
theorem zGA {B:Ben} {n:Nat} (hn:B.n=n) {d:Int} (d0:0≤d):B.up (List.replicate n true) d=(decide (d < n) && !B.failed d):=by
 unfold Ben.up;rw [zFX d0,hn];cases decide (d < (n:Int))<;>simp
theorem zsc (B:Ben) (live:List Bool) (g:Geo) (r:Int) (data:List (List Int)):nW (B.wActs live g r data)≤g.d.toNat:=by
 unfold Ben.wActs
 have:∀ n,nW ((List.range n).flatMap fun (d:Nat)=>if B.up live d then [Act.w d (36+r) (atR g r data d)] else [])≤n:=by
  intro n
  induction n with
  | zero=>simp [nW]
  | succ n ih=>
   rw [List.range_succ,List.flatMap_append,zti]
   have:nW (List.flatMap (fun (d:Nat)=>if B.up live d then [Act.w d (36+r) (atR g r data d)] else []) [n])≤1:=by
    simp only [List.flatMap_cons,List.flatMap_nil,List.append_nil];split
    ·exact Nat.le_trans (List.length_filter_le _ _) (by simp)
    ·simp [nW]
   omega
 exact this _
theorem zsd (B:Ben) (live:List Bool):nW (B.fActs live)=0:=by
 unfold Ben.fActs nW;rw [List.length_eq_zero_iff,List.filter_eq_nil_iff];intro a ha;obtain ⟨d,_,ha⟩:=List.mem_flatMap.1 ha;split at ha
 ·rw [List.mem_singleton.1 ha]; simp [Act.isW]
 ·cases ha
theorem zz4 {B:Ben} (hB:B.Ok) (hd:B.down=false) {live:List Bool} {g:Geo} {r:Int} {data:List (List Int)} (hr:zcF g r=true) (hR:Row g data) (hl:B.left < 0∨8≤B.left):
  B.sWrite live g r data=(0,does B (B.wActs live g r data))∧Does B (B.wActs live g r data):=by
 have hdd:=ok_d (zbH.1 hr).1;have hn:=zsc B live g r data
 have:=ziA (B.wActs live g r data) hB hd (zA1 hr hR) (by omega)
 refine ⟨?_,this⟩;unfold Ben.sWrite
 rw [zlU hr hR,if_neg (by simp),this.run]
theorem zz5 {B:Ben} (hB:B.Ok) (hd:B.down=false) (live:List Bool) (hl:B.left < 0∨0≤B.left):B.sFlush live=(0,does B (B.fActs live))∧Does B (B.fActs live):=by
 have:=ziA (B.fActs live) hB hd zwz (by rw [zsd]; omega)
 exact ⟨this.run,this⟩
theorem zEl {B:Ben} {live:List Bool} (h:Does B (B.fActs live)) {e b:Int} (e0:0≤e) (b0:0≤b) (b1:b < 52):(does B (B.fActs live)).cur e b=B.cur e b:=by
 rw [h.cur e b e0 b0 b1];exact zhA (zwA e b) _
theorem zEm {B:Ben} {live:List Bool} {g:Geo} {r:Int} {data:List (List Int)} (h:Does B (B.wActs live g r data)) {e b:Int} (e0:0≤e) (e1:e < g.d) (b0:0≤b) (b1:b < 52):
  (does B (B.wActs live g r data)).cur e b=if b=36+r∧B.up live e=true then atR g r data e else B.cur e b:=by
 rw [h.cur e b e0 b0 b1]
 by_cases hc:b=36+r∧B.up live e=true
 ·rw [if_pos hc,hc.1]
  have:=zyl (B:=B) (live:=live) (g:=g) (r:=r) (data:=data) (d:=e.toNat) (by omega) (by rw [show ((e.toNat:Nat):Int)=e by omega]; exact hc.2) B.cur
  rw [show ((e.toNat:Nat):Int)=e by omega] at this
  exact this
 ·rw [if_neg hc];refine zhA (zzF ?_) _
  by_cases hb:b=36+r
  ·refine .inr ?_;cases hu:B.up live e
   ·rfl
   ·exact absurd ⟨hb,hu⟩ hc
  ·exact .inl hb
end Wf

namespace Wf
open Go Go.RowKit Go.Proofs
set_option linter.unusedSimpArgs false
set_option linter.unusedVariables false
set_option maxHeartbeats 4000000
theorem zB6 (l:List Bool):(l.map D.bool).all D.free=true:=by rw [List.all_map,List.all_eq_true]; intro b _; rfl
theorem zB7 {d k:Nat} (hk:k < d):((List.range d).map fun i=>D.bool (decide (i < k))).set k (.bool true)=(List.range d).map fun i=>D.bool (decide (i < k+1)):=by
 apply List.ext_getElem?;intro j;rw [List.getElem?_set]
 by_cases hj:j < d
 ·by_cases hjk:k=j
  ·subst hjk; simp [hj]
  ·rw [if_neg hjk];simp only [List.getElem?_map,List.getElem?_range hj,Option.map_some,Option.some.injEq,D.bool.injEq,decide_eq_decide];omega
 ·have h1:k≠j:=by omega
  rw [if_neg h1,List.getElem?_eq_none (by simp; omega),List.getElem?_eq_none (by simp; omega)]
theorem zFY {d:Nat} (h0:1≤d) (h8:d≤8):zbT [.int .i64 0,.int .i64 d]=some (.sl .own ((List.replicate d true).map D.bool)):=by
 rw [znm];unfold zgk
 rw [zab (by omega),zab (by rfl),zab (by omega),zab (by omega),zab (by simp),zab (by simp),Int.toNat_natCast]
 let st:Nat→(Int×Int×List D×Int×Int×PUnit)×PUnit:=fun k=>((0,(d:Int),(List.range d).map (fun i=>D.bool (decide (i < k))),(d:Int),(k:Int),PUnit.unit),PUnit.unit)
 have hst:st 0=((0,(d:Int),List.replicate d (D.bool false),(d:Int),0,PUnit.unit),PUnit.unit):=by
  have:(List.range d).map (fun i=>D.bool (decide (i < 0)))=List.replicate d (D.bool false):=by
   apply List.ext_getElem?; intro j
   by_cases hj:j < d
   ·simp [hj]
   ·rw [List.getElem?_eq_none (by simp; omega),List.getElem?_eq_none (by simp; omega)]
  simp only [st,this]; rfl
 rw [←hst]
 refine zcw st d (by omega) ?_ ?_
 ·intro again k hk;dsimp only [st]
  have hd:decide ((k:Int) < (d:Int))=true:=by simp; omega
  have hg:((List.range d).map (fun i=>D.bool (decide (i < k))))[k]? =some (.bool false):=by simp [hk]
  rw [hd,za0,zab (by omega),zab (by simp; omega),Nat.zero_add,show Int.toNat (k:Int)=k from rfl,zaj hg,zab (by rfl),zaH,zah (by omega) (by omega),zab (by simp),zB7 hk]
  rfl
 ·intro again;dsimp only [st]
  have hd:decide ((d:Int) < (d:Int))=false:=by simp
  have hd1:decide ((d:Int) > 0)=true:=by simp; omega
  have hall:(List.range d).map (fun i=>D.bool (decide (i < d)))=(List.replicate d true).map D.bool:=by
   apply List.ext_getElem?; intro j
   by_cases hj:j < d
   ·simp [hj]
   ·rw [List.getElem?_eq_none (by simp; omega),List.getElem?_eq_none (by simp; omega)]
  have hz:decide ((0:Int) % 3 > 0)=false:=rfl;have hz2:((0:Int) % 9 == 8)=false:=rfl
  rw [hd,zat,hd1,za0,ztR 0 3 (by omega) (by omega),zac,zaY,hz,zat,za0,ztR 0 9 (by omega) (by omega),zac,zaY,hz2,zat,zab (by rfl),hall,zab (zB6 _)]
end Wf

namespace Wf
open Go Go.RowKit
universe u
def idf {α:Sort u} (a:α):α:=a
@[simp] theorem zcg {α:Sort u} (a:α):idf a=a:=congrFun (funext fun _=>rfl) a
section
variable {R α β:Type}
@[congr high] theorem zJA {b b':Bool} {x y:Option R} (h:idf b=b'):brK b x y=brK b' x y:=by rw [zcg] at h; rw [h]
@[congr high] theorem zIj {x x':Option α} {f:α→Option R} (h:idf x=x'):zam x f=zam x' f:=by rw [zcg] at h; rw [h]
@[congr high] theorem zJB {c c':Prop} [d:Decidable c] [d':Decidable c'] {x:Option R} (h:idf c=c'):sif c x=sif c' x:=by rw [zcg] at h; subst h; congr
@[congr high] theorem zJi {n n':Int} {f:Int→Option R} (h:idf n=n'):letN n f=letN n' f:=by rw [zcg] at h; rw [h]
@[congr high] theorem zJj {l l':List α} {i i':Nat} {f:α→Option R} (h:idf l=l') (h':idf i=i'):getK l i f=getK l' i' f:=by rw [zcg] at h h'; rw [h,h']
@[congr high] theorem zJC {k:IntKind} {d d':D} {f:Int→Option R} (h:idf d=d'):asI k d f=asI k d' f:=by rw [zcg] at h; rw [h]
@[congr high] theorem zJD {d d':D} {f:Bool→Option R} (h:idf d=d'):asB d f=asB d' f:=by rw [zcg] at h; rw [h]
@[congr high] theorem zJE {d d':D} {f:ByteArray→Option R} (h:idf d=d'):asS d f=asS d' f:=by rw [zcg] at h; rw [h]
@[congr high] theorem zJk {d d':D} {f:Tag→List D→Option R} (h:idf d=d'):asSl d f=asSl d' f:=by rw [zcg] at h; rw [h]
@[congr high] theorem zIk {d d':D} {f:List D→Option R} (h:idf d=d'):za7 d f=za7 d' f:=by rw [zcg] at h; rw [h]
@[congr high] theorem zHR {d d':D} {f:List D→Option R} (h:idf d=d'):znC d f=znC d' f:=by rw [zcg] at h; rw [h]
@[congr high] theorem zIl {d d':D} {f:List D→Option R} (h:idf d=d'):asAgg d f=asAgg d' f:=by rw [zcg] at h; rw [h]
@[congr high] theorem zIm {d d':D} {f:List D→Option R} (h:idf d=d'):zdi d f=zdi d' f:=by rw [zcg] at h; rw [h]
@[congr high] theorem zJl {d d':D} {f:D→Option R} (h:idf d=d'):asAt d f=asAt d' f:=by rw [zcg] at h; rw [h]
@[congr high] theorem zIn {d d':List D} {f:D→Option R} (h:idf d=d'):zCT d f=zCT d' f:=by rw [zcg] at h; rw [h]
@[congr high] theorem zJF {k:Nat} {d d':D} {f:Nat→Option R} (h:idf d=d'):asH k d f=asH k d' f:=by rw [zcg] at h; rw [h]
@[congr high] theorem zIo {d d':D} {f:Bool→Option R} (h:idf d=d'):zp9 d f=zp9 d' f:=by rw [zcg] at h; rw [h]
@[congr high] theorem zHS {d d':D} {f:Bool→Option R} (h:idf d=d'):zsK d f=zsK d' f:=by rw [zcg] at h; rw [h]
@[congr high] theorem zHT {kk:MK} {d d':D} {f:List (Int×D)→Option R} (h:idf d=d'):zjk kk d f=zjk kk d' f:=by rw [zcg] at h; rw [h]
@[congr high] theorem zIp {kk:MK} {d d':D} {f:List (Int×D)→Option R} (h:idf d=d'):zsL kk d f=zsL kk d' f:=by rw [zcg] at h; rw [h]
@[congr high] theorem zJm {T T':Tb} {f:Tb→Option R} (h:idf T=T'):letT T f=letT T' f:=by rw [zcg] at h; rw [h]
@[congr high] theorem zIq {l l':List α} {f:α→List α→Option R} (h:idf l=l'):zdd l f=zdd l' f:=by rw [zcg] at h; rw [h]
@[congr high] theorem zJn {l l':List α} {x:Option R} (h:idf l=l'):nilK l x=nilK l' x:=by rw [zcg] at h; rw [h]
@[congr high] theorem zFZ {ls:List Lf} {d d':List D} {f:LfT ls→Option R} (h:idf d=d'):zaw ls d f=zaw ls d' f:=by rw [zcg] at h; rw [h]
@[congr high] theorem zIr {B:(α→Option R)→α→Option R} {a a':α} (h:idf a=a'):zca B a=zca B a':=by rw [zcg] at h; rw [h]
end
@[simp] theorem zJG (k i:Nat):zhO (.h k i 0)=true:=rfl
@[simp] theorem zJ7 (k i:Nat):D.free (.h k i 0)=true:=rfl
@[simp] theorem zgV {R:Type} (a b:D) (f:LfT [.any,.any]→Option R):zaw [.any,.any] [a,b] f=f (a,b,()):=by rw [zda,zda,zem]
@[simp] theorem zJH {β:Type} {l:List β} {n:Nat} (h:l.length=n):cut 0 n l=l:=by subst h; exact zdL l
end Wf

namespace Wf
open Go Go.RowKit Go.Proofs
set_option linter.unusedSimpArgs false
set_option linter.unusedVariables false
set_option maxHeartbeats 4000000
theorem zEn {T0:Tb} {b:Nat} {idx:List Nat}:∀ (l:List Act) (B:Ben),(∀ a∈l,a.isW=false)→P0 T0 b idx (does B l)=P0 T0 b idx B
 | [],B,_=>rfl
 | a::l,B,h=>by
  show P0 T0 b idx (does (B.does1 a) l)=_
  rw [zEn l _ fun a ha=>h a (List.mem_cons_of_mem _ ha)]
  have:=h a (List.mem_cons_self ..)
  cases a with
  | w d a x=>cases this
  | f d=>rfl
theorem zEo (B:Ben) (live:List Bool):∀ a∈B.fActs live,a.isW=false:=by
 intro a ha;unfold Ben.fActs at ha;obtain ⟨e,he,ha⟩:=List.mem_flatMap.1 ha;split at ha
 ·rw [List.mem_singleton.1 ha]; rfl
 ·cases ha
structure Run (U V:Tb) (b:Nat) (idx:List Nat) (B:Ben) (n:Nat) (K:Int):Prop where
 at':At U V b idx B
 num:B.n=n
 down:B.down=false
 left:B.left= -1
 w:B.w≤K
theorem Run.mono {U V:Tb} {b:Nat} {idx:List Nat} {B:Ben} {n:Nat} {K L:Int} (h:Run U V b idx B n K) (hk:K≤L):Run U V b idx B n L:=⟨h.at',h.num,h.down,h.left,by have:=h.w; omega⟩
theorem zB8 (T0 T1:Tb) {g:Geo} (hk:g.ok=true) {n:Nat} (n0:1≤n) (n8:n≤8) (tg:Tag) (l:List Int):∃ U V idx B,
  zbh [.agg [.int .i64 g.l,.int .i64 g.d,.int .i64 g.c],.int .i64 n,.sl tg (intL l)] [T0,T1]=some (Ans.mk (.h kB T0.length 0) [] [P0 U T0.length idx B,P1 V idx B])∧
  Run U V T0.length idx B n 0∧Still B∧B.w=0∧(∀ d s:Int,0≤d→d < g.d→d < n→0≤s→s < 16→B.cur d (36+s)=atR g s (rowL g l s.toNat) d)∧(∀ d a:Int,0≤d→0≤a→a < 36∨g.d≤d→a < 52→B.cur d a=zen):=by
 have hF:=zmI (gs:=fun _=>g) (l:=l) n8 (fun _=>hk) 16 (by omega)
 have hat0:=zEg T0 T1 n8
 refine ⟨_,_,_,_,zJh hk n0 n8 tg l,⟨⟨hat0.b,hat0.nd,hat0.lt,?_,hF.still.ok⟩,hF.num,hF.still.down,hF.left,by rw [hF.w]; omega⟩,hF.still,hF.w,fun d s d0 d1 d2 s0 s1=>?_,fun d a d0 a0 ha a1=>?_⟩
 ·have:=hF.num; unfold Ben.n at this; rw [hat0.len]; simp [Ben.new]; omega
 ·rw [hF.cur d (36+s) d0 (by omega) (by omega),show (36+s - 36)=s by omega,if_pos ⟨by omega,by omega,d1,d2⟩]
 ·rw [hF.cur d a d0 a0 a1,if_neg (fun q=>by omega)]
section
variable {U V:Tb} {b:Nat} {idx:List Nat} {B:Ben} {n:Nat} {K:Int}
theorem Run.up (h:Run U V b idx B n K) {d:Int} (d0:0≤d):B.up (List.replicate n true) d=(decide (d < n) && !B.failed d):=zGA h.num d0
theorem Run.is (h:Run U V b idx B n K) {d:Int} (d0:0≤d) (d1:d < n):B.is d=true:=zeI.2 ⟨d0,by rw [h.num]; exact d1⟩
theorem Run.write (h:Run U V b idx B n K) (hK:K≤900000) (tg:Tag) (live:List Bool) {g:Geo} {r:Int} (hr:zcF g r=true) (tg2:Tag) {data:List (List Int)} (hR:Row g data):∃ B1,
  zcc [.h kB b 0,.sl tg (live.map D.bool),.agg [.int .i64 g.l,.int .i64 g.d,.int .i64 g.c],.int .i64 r,.sl tg2 (pL (fP data))] [P0 U b idx B,P1 V idx B]=some (Ans.mk (.int .i64 0) [] [P0 U b idx B1,P1 V idx B1])∧
  Run U V b idx B1 n (K+8)∧(∀ e,B1.failed e=B.failed e)∧B1=does B (B.wActs live g r data)∧(∀ e a:Int,0≤e→e < g.d→0≤a→a < 52→B1.cur e a=if a=36+r∧B.up live e=true then atR g r data e else B.cur e a):=by
 obtain ⟨hw1,hD1⟩:=zz4 h.at'.ok h.down (live:=live) hr hR (.inl (by rw [h.left]; omega))
 have hdd:=ok_d (zbH.1 hr).1;have hw:=h.w;have hwd:=zbZ (zbH.1 hr).1
 have hsw:=zrw h.at' (by omega) tg live g r tg2 (ps:=fP data) (by have:=hR.len; simp; omega) (by intro x hx; obtain ⟨y,hy,rfl⟩:=List.mem_map.1 hx; exact hR.sec y hy)
 rw [zyI,hw1] at hsw;have hn:=zsc B live g r data;have hnx:=hD1.nx.w
 refine ⟨does B (B.wActs live g r data),hsw,⟨h.at'.nx hD1.nx,hD1.nx.n.trans h.num,hD1.down.trans h.down,by rw [hD1.left,h.left]; rfl,by omega⟩,hD1.failed,rfl,fun e a e0 e1 a0 a1=>zEm hD1 e0 e1 a0 a1⟩
theorem Run.flush (h:Run U V b idx B n K) (hK:K≤900000) (tg:Tag) (live:List Bool):∃ B1,
  zcd [.h kB b 0,.sl tg (live.map D.bool)] [P0 U b idx B,P1 V idx B]=some (Ans.mk (.int .i64 0) [] [P1 V idx B1])∧P0 U b idx B=P0 U b idx B1∧
  Run U V b idx B1 n K∧(∀ e,B1.failed e=B.failed e)∧B1=does B (B.fActs live)∧(∀ e a:Int,0≤e→0≤a→a < 52→B1.cur e a=B.cur e a):=by
 obtain ⟨hw1,hD1⟩:=zz5 h.at'.ok h.down live (.inl (by rw [h.left]; omega))
 have hw:=h.w
 have hsf:=zrx h.at' (by omega) tg live
 rw [hw1] at hsf;have hnx:=hD1.nx.w;rw [zsd] at hnx
 refine ⟨does B (B.fActs live),hsf,(zEn _ _ (zEo B live)).symm,⟨h.at'.nx hD1.nx,hD1.nx.n.trans h.num,hD1.down.trans h.down,by rw [hD1.left,h.left,zsd]; rfl,by omega⟩,hD1.failed,rfl,fun e a e0 a0 a1=>zEl hD1 e0 a0 a1⟩
theorem Run.fail (h:Run U V b idx B n K) {d:Int} (d0:0≤d) (d1:d < n):∃ B1,
  zfT [.h kB b 0,.int .i64 d] [P0 U b idx B,P1 V idx B]=some (Ans.mk (.int .i64 0) [] [P1 V idx B1])∧P0 U b idx B=P0 U b idx B1∧
  Run U V b idx B1 n K∧(∀ e:Int,0≤e→e < n→B1.failed e=(decide (e=d) || B.failed e))∧B1=(B.fail d).2∧(∀ e a:Int,0≤e→e≠d→B1.cur e a=B.cur e a):=by
 have hd:=h.is d0 d1;obtain ⟨f1,f2,f3,f4,f5⟩:=zEk hd;have hf:=zI6 h.at' d;rw [f1] at hf
 have hp:P0 U b idx B=P0 U b idx (B.fail d).2:=by unfold Ben.fail; rw [if_pos hd]; rfl
 have hnx:=zHv (d:=d) h.at'.ok
 refine ⟨(B.fail d).2,hf,hp,⟨h.at'.nx hnx,f2.trans h.num,f3.trans h.down,f4.trans h.left,by rw [f5]; exact h.w⟩,fun e e0 e1=>zz3 hd (h.is e0 e1),rfl,fun e a e0 hne=>zFW hd e0 hne⟩
theorem Run.read (h:Run U V b idx B n K) (hK:K≤900000) (tg:Tag) (live:List Bool) (g:Geo) (r:Int):
  zcp [.h kB b 0,.sl tg (live.map D.bool),.agg [.int .i64 g.l,.int .i64 g.d,.int .i64 g.c],.int .i64 r] [P0 U b idx B,P1 V idx B]=some (Ans.mk (.tup [.sl .own (pL (fP (B.sRead live g r).1)),.int .i64 (B.sRead live g r).2]) [] []):=
 zt1 h.at' (by have:=h.w; omega) tg live g r
end
end Wf

namespace Wf
open Go Go.RowKit Go.Proofs
set_option linter.unusedSimpArgs false
set_option linter.unusedVariables false
set_option maxHeartbeats 4000000
@[simp ↓] theorem zJ8 {R α:Type} (g:α→Option R) (f:(α→Option R)→Option R):jn g f=f g:=rfl
theorem zHU {R α:Type} {g:α→Option R} {f:(α→Option R)→Option R} {r:Option R} (I:α→Prop) (hg:∀ a,I a→g a=r) (hf:∀ j,(∀ a,I a→j a=r)→f j=r):jn g f=r:=hf g hg
section
variable {T0 T1:Tb} {b:Nat} {idx:List Nat} {B:Ben}
end
end Wf

namespace Wf
open Go Go.RowKit Go.Proofs
set_option linter.unusedSimpArgs false
set_option linter.unusedVariables false
set_option maxHeartbeats 4000000
def Ben.nP (B:Ben) (d:Int):Nat:=(B.dk d).pend.length
section
variable {B:Ben}
theorem zF0 (B:Ben) (a:Act):does B [a]=B.does1 a:=rfl
theorem zBe {a:Act} (h:a.Ok B) {e:Int} (e0:0≤e):(B.does1 a).nP e=match a with
  | .w d _ _=>if e=d then B.nP e+1 else B.nP e
  | .f d=>if e=d then 0 else B.nP e:=by
 cases a with
 | w d a x=>
  show (((B.junk ((B.dk d).write a x).2).less.setD d ((B.dk d).add a x)).dk e).pend.length=if e=d then B.nP e+1 else B.nP e
  rw [zge (by simpa using h.1) e0]
  by_cases he:e=d
  ·subst he; rw [if_pos rfl,if_pos rfl]; simp [DS.add,Ben.nP]
  ·rw [if_neg he,if_neg he]; rfl
 | f d=>
  show ((B.setD d (B.dk d).flushed).dk e).pend.length=if e=d then 0 else B.nP e
  rw [zge h.1 e0]
  by_cases he:e=d
  ·subst he; rw [if_pos rfl,if_pos rfl]; rfl
  ·rw [if_neg he,if_neg he]; rfl
theorem zEp {as':List Act} (hB:B.Ok):(∀ a∈as',a.Ok B)→(does B as').Ok∧∀ c:Act,c.Ok B→c.Ok (does B as'):=by
 induction as' generalizing B with
 | nil=>intro _; exact ⟨hB,fun c hc=>hc⟩
 | cons a l ih=>
  intro h;have ha:=h a (List.mem_cons_self ..)
  obtain ⟨i1,i2⟩:=ih (ziz hB ha).ok fun c hc=>zmX hB ha (h c (List.mem_cons_of_mem _ hc))
  exact ⟨i1,fun c hc=>i2 c (zmX hB ha hc)⟩
theorem zF1 (hB:B.Ok) {live:List Bool} {e:Int} (e0:0≤e):(does B (B.fActs live)).nP e=if B.up live e=true then 0 else B.nP e:=by
 have hok:=zwz (B:=B) (live:=live)
 have key:∀ k,k≤B.ds.length→(does B ((List.range k).flatMap fun (d:Nat)=>if B.up live d then [Act.f d] else [])).nP e=if e < k∧B.up live e=true then 0 else B.nP e:=by
  intro k
  induction k with
  | zero=>intro _; rw [if_neg (by omega)]; rfl
  | succ k ih=>
   intro hk;rw [List.range_succ,List.flatMap_append,zth]
   have hsub:∀ a∈((List.range k).flatMap fun (d:Nat)=>if B.up live d then [Act.f d] else []),a.Ok B:=by
    intro a ha;refine hok a ?_;unfold Ben.fActs;obtain ⟨d,hd,ha⟩:=List.mem_flatMap.1 ha
    exact List.mem_flatMap.2 ⟨d,List.mem_range.2 (by have:=List.mem_range.1 hd; omega),ha⟩
   obtain ⟨i1,i2⟩:=zEp hB hsub
   have ih:=ih (by omega)
   generalize does B ((List.range k).flatMap fun (d:Nat)=>if B.up live d then [Act.f d] else [])=C at*
   simp only [List.flatMap_cons,List.flatMap_nil,List.append_nil]
   by_cases hu:B.up live (k:Int)=true
   ·rw [if_pos hu]
    have ha:(Act.f k).Ok C:=i2 _ (hok _ (by unfold Ben.fActs; exact List.mem_flatMap.2 ⟨k,List.mem_range.2 (by omega),by rw [if_pos hu]; simp⟩))
    rw [zF0];rw [zBe ha e0];dsimp only;rw [ih]
    by_cases he:e=k
    ·subst he; rw [if_pos rfl,if_pos ⟨by omega,hu⟩]
    ·rw [if_neg he]
     by_cases hc:e < k∧B.up live e=true
     ·rw [if_pos hc,if_pos ⟨by omega,hc.2⟩]
     ·rw [if_neg hc,if_neg (fun q=>hc ⟨by omega,q.2⟩)]
   ·rw [if_neg hu];show C.nP e=_;rw [ih]
    by_cases he:e=k
    ·subst he; rw [if_neg (show ¬ ((k:Int) < (k:Int)∧_) by omega),if_neg (fun q=>hu q.2)]
    ·by_cases hc:e < k∧B.up live e=true
     ·rw [if_pos hc,if_pos ⟨by omega,hc.2⟩]
     ·rw [if_neg hc,if_neg (fun q=>hc ⟨by omega,q.2⟩)]
 have:=key B.ds.length (Nat.le_refl _);unfold Ben.fActs;rw [this]
 by_cases hu:B.up live e=true
 ·rw [if_pos hu,if_pos ⟨zJc hu,hu⟩]
 ·rw [if_neg hu,if_neg (fun q=>hu q.2)]
theorem zBf (B:Ben) (f:Nat→Bool):∀ k,(∀ j:Nat,j < k→B.nP j=if f j then 1 else 0)→zw5 B k=((List.range k).countP f:Nat)
 | 0,_=>rfl
 | k+1,h=>by
  have ih:=zBf B f k fun j hj=>h j (by omega)
  have hk:=h k (by omega)
  unfold Ben.nP at hk;rw [List.range_succ,List.countP_append,List.countP_singleton];show zw5 B k+_=_;rw [ih,hk];split<;>simp
theorem zyR (h:∀ j:Nat,j < B.ds.length→B.nP j=0):B.pending=0:=by
 unfold Ben.pending
 rw [zBf B (fun _=>false) _ (by simpa using h)]
 simp
end
end Wf

namespace Wf
open Go Go.RowKit Go.Proofs
set_option linter.unusedSimpArgs false
set_option linter.unusedVariables false
set_option maxHeartbeats 4000000
theorem zF2 (g:Geo):zbb [.agg [.int .i64 g.l,.int .i64 g.d,.int .i64 g.c]]=some (.int .i64 g.cap):=by
 rw [zi5];unfold zd9
 have hw:0≤g.width∧g.width≤8:=by
  unfold Geo.width zgG;split
  ·rename_i h; have:=zbZ h; unfold Geo.width zgG at this; rw [if_pos h] at this; omega
  ·omega
 have hb:IntKind.i64.wrap (g.width*16)=g.width*16:=zah (by omega) (by omega)
 simp [zhB,hb,zAX]
theorem zHV (g:Geo) (a:Int):zbY [.agg [.int .i64 g.l,.int .i64 g.d,.int .i64 g.c],.int .i64 a]=some (.tup [.int .i64 (ofP g a).1,.int .i64 (ofP g a).2.1,.bool (ofP g a).2.2]):=by
 have hdk:=fun row k=>zyM g row k
 have hck:zae [.agg [.int .i64 g.l,.int .i64 g.d,.int .i64 g.c]]=some (.bool g.ok):=zjS g.l g.d g.c;rw [zoI];unfold zg0;cases hk:g.ok
 ·have:ofP g a=(0,0,false):=by
   unfold ofP;rw [if_neg]
   rintro ⟨h0,h1⟩
   rw [ztj h0 h1] at hk; cases hk
  rw [hk] at hck;simp [hck,this]
 ·rw [hk] at hck;rw [zF2,zhB];unfold ofP
  by_cases h0:a < 0
  ·simp [hck,h0,show ¬ 0≤a by omega]
  ·by_cases h1:g.cap≤a
   ·simp [hck,h0,h1,show ¬ a < g.cap by omega]
   ·have h0:0≤a:=by omega
    have h1:a < g.cap:=by omega
    have hd:=ok_d hk;have hw:=zbZ hk;have hv:=zFg hk h0;have hr:=zpl h0 h1;have hca:g.cap=g.width*16:=rfl;have hvw:a / g.c / g.width≤a / g.c:=Int.ediv_le_self _ hv.1
    have w1:IntKind.i64.wrap (a.tdiv g.c)=a / g.c:=by rw [zyi hk h0]; exact zah (by omega) (by omega)
    have w2:IntKind.i64.wrap ((a / g.c).tdiv g.width)=a / g.c / g.width:=by rw [Int.tdiv_eq_ediv_of_nonneg hv.1]; exact zah (by omega) (by omega)
    have hm:0≤a / g.c / g.width*g.c:=Int.mul_nonneg hr.2.2.1 (by omega)
    have w3:IntKind.i64.wrap (a / g.c / g.width*g.c)=a / g.c / g.width*g.c:=zah (by omega) (by omega)
    have w4:IntKind.i64.wrap (a / g.c / g.width*g.c+a.tmod g.c)=rowG g a:=by rw [zlT h0]; exact zah (by omega) (by omega)
    have t5:(a / g.c).tmod g.width=zds g a:=zlT hv.1
    simp [hck,h0,h1,show ¬ a < 0 by omega,show ¬ g.cap≤a by omega,w1,w2,w3,w4,t5,show g.c≠0 by omega,show g.width≠0 by omega,hdk]
end Wf

namespace Wf
open Go Go.RowKit Go.Proofs
set_option linter.unusedSimpArgs false
set_option linter.unusedVariables false
set_option maxHeartbeats 4000000
section
variable {B:Ben}
end
section
variable {T0 T1:Tb} {b:Nat} {idx:List Nat} {B:Ben}
end
end Wf

namespace Wf
open Go Go.RowKit
set_option linter.unusedSimpArgs false
set_option linter.unusedVariables false
theorem zHW {c r w m row j:Int} (hc:c=1∨c=2∨c=4) (hr:r=1∨r=2∨r=4) (hcr:c≤r) (hw:2≤w∧w≤7) (j0:0≤j) (j1:j < w) (h0:0≤row) (h:row < m*r):(row / c*w+j)*c+row % c < m*(r*w):=by
 have hw:w=2∨w=3∨w=4∨w=5∨w=6∨w=7:=by omega
 rcases hc with rfl | rfl | rfl<;>rcases hr with rfl | rfl | rfl<;>first | (exfalso; omega) | (rcases hw with rfl | rfl | rfl | rfl | rfl | rfl<;>omega)
theorem zF3 {c r w m row j:Int} (hc:c=1∨c=2∨c=4) (hr:r=1∨r=2∨r=4) (hcr:c≤r) (hw:2≤w∧w≤7) (j0:0≤j) (j1:j < w) (h0:0≤row) (h:m*r≤row):m*(r*w)≤(row / c*w+j)*c+row % c:=by
 have hw:w=2∨w=3∨w=4∨w=5∨w=6∨w=7:=by omega
 rcases hc with rfl | rfl | rfl<;>rcases hr with rfl | rfl | rfl<;>first | (exfalso; omega) | (rcases hw with rfl | rfl | rfl | rfl | rfl | rfl<;>omega)
theorem zF4 {c r w k a:Int} (hc:c=1∨c=2∨c=4) (hr:r=1∨r=2∨r=4) (hcr:c≤r) (hw:2≤w∧w≤7) (h0:0≤a) (h:k*r*w≤a):k*r≤a / c / w*c+a % c:=by
 have hw:w=2∨w=3∨w=4∨w=5∨w=6∨w=7:=by omega
 rcases hc with rfl | rfl | rfl<;>rcases hr with rfl | rfl | rfl<;>first | (exfalso; omega) | (rcases hw with rfl | rfl | rfl | rfl | rfl | rfl<;>omega)
theorem zt3 {g:Geo} {a:Int} (h0:0≤a) (h1:a < g.cap):zcF g (rowG g a)=true∧0≤zds g a∧zds g a < g.width∧numP g (rowG g a) (zds g a)=a:=by
 have hk:=ztj h0 h1;have hr:=zpl h0 h1;have hm:=zHz hk (a / g.c);refine ⟨zbH.2 ⟨hk,hr.1,hr.2.1⟩,hm.1,hm.2,?_⟩;have hw:=zbZ hk;have hc:=(zdN.1 hk).2.2;unfold numP rowG zds;generalize g.c=c at*;generalize g.width=w at*
 have hw:w=2∨w=3∨w=4∨w=5∨w=6∨w=7:=by omega
 rcases hc with rfl | rfl | rfl<;>rcases hw with rfl | rfl | rfl | rfl | rfl | rfl<;>omega
theorem zHX {x y:Geo} {k:Int} (h0:0≤k) (h1:k < winP x y):zbF x y k=(k*(zaT x y*y.width),(k+1)*(zaT x y*y.width)):=by
 unfold zbF; rw [if_neg (by omega)]
theorem zHY {x y:Geo} {k:Int} (h0:0≤k) (h1:k < winP x y):x.can y=true:=by
 cases h:x.can y
 ·have:=(zob h).2; omega
 ·rfl
structure Win (x y:Geo) (k:Int):Prop where
 can:x.can y=true
 xok:x.ok=true
 yok:y.ok=true
 r:zaT x y=1∨zaT x y=2∨zaT x y=4
 xc:x.c≤zaT x y
 yc:y.c≤zaT x y
 r0:0≤k*zaT x y
 r1:(k+1)*zaT x y≤16
 rr:(k+1)*zaT x y=k*zaT x y+zaT x y
 s1:(zbF x y k).1=k*(zaT x y*y.width)
 s2:(zbF x y k).2=(k+1)*(zaT x y*y.width)
 ss:(zbF x y k).2=(zbF x y k).1+zaT x y*y.width
 s0:0≤(zbF x y k).1
 se:(zbF x y k).2≤y.cap
 m:2≤zaT x y*y.width∧zaT x y*y.width≤28
theorem zkY {x y:Geo} {k:Int} (h0:0≤k) (h1:k < winP x y):Win x y k:=by
 have hc:=zHY h0 h1;obtain ⟨k1,k2,k3,k4,k5,k6⟩:=zkd.1 hc;obtain ⟨e1,e2⟩:=zlS hc;obtain ⟨e3,e4,e5⟩:=zyg hc;have hw:=zbZ k2;have hs:=zHX h0 h1;have hx:=(zdN.1 k1).2.2;have hy:=(zdN.1 k2).2.2
 have rr:(k+1)*zaT x y=k*zaT x y+zaT x y:=by rw [Int.add_mul,Int.one_mul]
 have ss:(k+1)*(zaT x y*y.width)=k*(zaT x y*y.width)+zaT x y*y.width:=by rw [Int.add_mul,Int.one_mul]
 have hm:2≤zaT x y*y.width∧zaT x y*y.width≤28:=by rcases e2 with e | e | e<;>rw [e]<;>omega
 have hr0:0≤k*zaT x y:=Int.mul_nonneg h0 (by omega)
 have hr1:(k+1)*zaT x y≤16:=by
  rw [←e5]
  exact Int.mul_le_mul_of_nonneg_right (by omega) (by omega)
 refine ⟨hc,k1,k2,e2,by omega,by omega,hr0,hr1,rr,by rw [hs],by rw [hs],by rw [hs]; exact ss,by rw [hs]; exact Int.mul_nonneg h0 (by omega),?_,hm⟩
 rw [hs];show (k+1)*(zaT x y*y.width)≤y.width*16;rw [←Int.mul_assoc,Int.mul_comm y.width 16]
 exact Int.mul_le_mul_of_nonneg_right hr1 (by omega)
theorem zse {x y:Geo} {k r j:Int} (h:Win x y k) (r0:k*zaT x y≤r) (r1:r < (k+1)*zaT x y) (j0:0≤j) (j1:j < y.width):(zbF x y k).1≤numP y r j∧numP y r j < (zbF x y k).2:=by
 have hw:=zbZ h.yok;have hy:=(zdN.1 h.yok).2.2;have:=h.r0;rw [h.s1,h.s2];unfold numP
 exact ⟨zF3 hy h.r h.yc hw j0 j1 (by omega) r0,zHW hy h.r h.yc hw j0 j1 (by omega) r1⟩
theorem zHZ {x y:Geo} {k n:Int} (h:Win x y k) (n0:(zbF x y k).1≤n) (n1:n < x.cap):k*zaT x y≤rowG x n:=by
 have hw:=zbZ h.xok;have hx:=(zdN.1 h.xok).2.2;have hs:=h.s0;have hww:=(zkd.1 h.can).2.2.2.2.2;rw [h.s1] at n0 hs
 have hle:k*zaT x y*x.width≤k*(zaT x y*y.width):=by
  rw [Int.mul_assoc]
  have h0:0≤k:=by
   rcases h.r with e | e | e<;>have:=h.r0<;>rw [e] at this<;>omega
  exact Int.mul_le_mul_of_nonneg_left (Int.mul_le_mul_of_nonneg_left hww (by rcases h.r with e | e | e<;>omega)) h0
 unfold rowG
 exact zF4 hx h.r h.xc hw (by omega) (by omega)
end Wf

namespace Wf
open Go Go.RowKit Go.Proofs
set_option linter.unusedSimpArgs false
set_option linter.unusedVariables false
set_option maxHeartbeats 4000000
theorem zsf:[D.int IntKind.u8 (0:Int),D.int IntKind.u8 (0:Int),D.int IntKind.u8 (0:Int),D.int IntKind.u8 (0:Int),D.int IntKind.u8 (0:Int),D.int IntKind.u8 (0:Int),D.int IntKind.u8 (0:Int),D.int IntKind.u8 (0:Int),D.int IntKind.u8 (0:Int),D.int IntKind.u8 (0:Int),D.int IntKind.u8 (0:Int),D.int IntKind.u8 (0:Int),D.int IntKind.u8 (0:Int),D.int IntKind.u8 (0:Int),D.int IntKind.u8 (0:Int),D.int IntKind.u8 (0:Int),D.int IntKind.u8 (0:Int),D.int IntKind.u8 (0:Int),D.int IntKind.u8 (0:Int),D.int IntKind.u8 (0:Int),D.int IntKind.u8 (0:Int),D.int IntKind.u8 (0:Int),D.int IntKind.u8 (0:Int),D.int IntKind.u8 (0:Int),D.int IntKind.u8 (0:Int),D.int IntKind.u8 (0:Int),D.int IntKind.u8 (0:Int),D.int IntKind.u8 (0:Int),D.int IntKind.u8 (0:Int),D.int IntKind.u8 (0:Int),D.int IntKind.u8 (0:Int),D.int IntKind.u8 (0:Int)]=uL zen:=rfl
theorem zBg (ls:List (List Int)) (l:List Int):pL (fP ls)++[D.sl .fresh (uL l)]=pL (fP (ls++[l])):=by simp [pL,fP]
section
variable (a to:Geo) (k:Int)
def mayW:Bool:=decide (0≤k) && decide (k < winP a to)
theorem window_may:zbP [.agg [.int .i64 a.l,.int .i64 a.d,.int .i64 a.c],.agg [.int .i64 to.l,.int .i64 to.d,.int .i64 to.c],.int .i64 k]=some (.bool (mayW a to k)):=by
 rw [ztu];unfold zmc mayW;have hw:zbd [.agg [.int .i64 a.l,.int .i64 a.d,.int .i64 a.c],.agg [.int .i64 to.l,.int .i64 to.d,.int .i64 to.c]]=some (.int .i64 (winP a to)):=zrt a to
 by_cases h:0≤k<;>simp [h,hw]
theorem zvG:zb2 [.agg [.int .i64 a.l,.int .i64 a.d,.int .i64 a.c],.agg [.int .i64 to.l,.int .i64 to.d,.int .i64 to.c],.int .i64 k]=some (.tup [.int .i64 (zbF a to k).1,.int .i64 (zbF a to k).2]):=zDP a to k
theorem zB9:zbe [.agg [.int .i64 a.l,.int .i64 a.d,.int .i64 a.c],.agg [.int .i64 to.l,.int .i64 to.d,.int .i64 to.c]]=some (.int .i64 (zaT a to)):=ztP a to
theorem zF5:zaZ [.agg [.int .i64 a.l,.int .i64 a.d,.int .i64 a.c]]=some (.int .i64 a.cap):=zDM a
end
def Act.sec:Act→Prop
 | .w _ _ x=>Sec x
 | .f _=>True
theorem zt4:∀ (l:List Act) {B:Ben},B.Ok→(∀ a∈l,a.sec)→Nx (nW l) B (runA l B).2∧Like B (runA l B).2
 | [],B,hB,_=>⟨.rfl' hB (by simp [nW]),.refl B⟩
 | a::l,B,hB,h=>by
  have ha:=h a (List.mem_cons_self ..)
  have h1:Nx (if a.isW=true then 1 else 0) B (B.act a).2∧Like B (B.act a).2:=by
   cases a with
   | w d a x=>exact ⟨zAQ hB (.inl ha),zvD ..⟩
   | f d=>exact ⟨zAR hB,zvE hB d⟩
  rw [zlQ,zwv]
  by_cases h0:(B.act a).1=0
  ·rw [if_pos h0]
   obtain ⟨h2,h3⟩:=zt4 l h1.1.ok fun c hc=>h c (List.mem_cons_of_mem _ hc)
   exact ⟨(h1.1.trans h2).mono (by split<;>simp),h1.2.trans h3⟩
  ·rw [if_neg h0]
   exact ⟨h1.1.mono (by split<;>simp<;>omega),h1.2⟩
theorem zEq {T0:Tb} {b:Nat} {idx:List Nat}:∀ (l:List Act) (B:Ben),(∀ a∈l,a.isW=false)→P0 T0 b idx (runA l B).2=P0 T0 b idx B
 | [],B,_=>rfl
 | a::l,B,h=>by
  have h1:P0 T0 b idx (B.act a).2=P0 T0 b idx B:=by
   have:=h a (List.mem_cons_self ..)
   cases a with
   | w d a x=>cases this
   | f d=>show P0 T0 b idx (B.flush d).2=_; unfold Ben.flush; split<;>rfl
  rw [zlQ];split
  ·rw [zEq l _ fun a ha=>h a (List.mem_cons_of_mem _ ha),h1]
  ·exact h1
theorem zt5 {B:Ben} {live:List Bool} {g:Geo} {r:Int} {data:List (List Int)} (hr:zcF g r=true) (hR:Row g data):∀ a∈B.wActs live g r data,a.sec:=fun a ha=>by
 unfold Ben.wActs at ha;obtain ⟨d,hd,ha⟩:=List.mem_flatMap.1 ha;have hd:=List.mem_range.1 hd;split at ha
 ·rw [List.mem_singleton.1 ha]
  exact zA0 hr hR (by omega) (by have:=ok_d (zbH.1 hr).1; omega)
 ·cases ha
theorem zEr {B:Ben} (hB:B.Ok) {live:List Bool} {g:Geo} {r:Int} {data:List (List Int)} (hr:zcF g r=true) (hR:Row g data):Nx 8 B (B.sWrite live g r data).2:=by
 unfold Ben.sWrite
 rw [if_neg (by rw [zlU hr hR]; simp)]
 have:=zsc B live g r data;have:=ok_d (zbH.1 hr).1
 exact (zt4 _ hB (zt5 hr hR)).1.mono (by omega)
def Ben.wOne (B:Ben) (live:List Bool) (a:Geo) (n:Int):List Int×Int:=if a.cap≤n then (zen,0) else B.sOne live a n
def Ben.wStep (B:Ben) (live:List Bool) (a:Geo) (from':Int) (j:Nat) (acc:List (List Int)):Int×List (List Int):=
 if (B.wOne live a (from'+j)).2=0 then (0,acc++[(B.wOne live a (from'+j)).1]) else ((B.wOne live a (from'+j)).2,acc)
def Ben.wGo (B:Ben) (live:List Bool) (a to:Geo) (k:Int):Int×List (List Int):=runE (B.wStep live a (zbF a to k).1) 0 ((zbF a to k).2 - (zbF a to k).1).toNat []
def Ben.wRead (B:Ben) (live:List Bool) (a to:Geo) (k:Int):List (List Int)×Int:=
 if mayW a to k=false then ([],1) else (if (B.wGo live a to k).1=0 then (B.wGo live a to k).2 else [],(B.wGo live a to k).1)
def rowW (a to:Geo) (k:Int) (data:List (List Int)) (r:Int):List (List Int):=(List.range to.width.toNat).map fun (j:Nat)=>data.getD (numP to r j - (zbF a to k).1).toNat []
def Ben.wRows (B:Ben) (live:List Bool) (a to:Geo) (k:Int) (data:List (List Int)):Int×Ben:=
 runE (fun j B=>B.sWrite live to (k*zaT a to+j) (rowW a to k data (k*zaT a to+j))) 0 (zaT a to).toNat B
def Ben.wWrite (B:Ben) (live:List Bool) (a to:Geo) (k:Int) (data:List (List Int)):Int×Ben:=
 if mayW a to k=false∨(data.length:Int)≠(zbF a to k).2 - (zbF a to k).1∨data.all (fun x=>decide (x.length=32))=false then (1,B)
 else if (B.wRows live a to k data).1=0 then (B.wRows live a to k data).2.sFlush live else B.wRows live a to k data
theorem zH0 {B:Ben} {live:List Bool} {g:Geo} {n:Int}:(B.oneT live g n=.fresh∨B.oneT live g n=.nil)∧((B.sOne live g n).2=0→B.oneT live g n=.fresh):=by
 unfold Ben.oneT Ben.sOne;split
 ·exact ⟨.inr rfl,fun e=>absurd e (by decide)⟩
 ·split
  ·exact ⟨.inl rfl,fun _=>rfl⟩
  ·split
   ·rename_i h; exact ⟨.inr rfl,fun e=>absurd e h⟩
   ·exact ⟨.inl rfl,fun _=>rfl⟩
theorem zsg {a to:Geo} {k:Int}:mayW a to k=true↔0≤k∧k < winP a to:=by unfold mayW; simp
section
variable {T0 T1:Tb} {b:Nat} {idx:List Nat} {B:Ben}
theorem zt6 (h:At T0 T1 b idx B) (hw:B.w≤1000000) (tg:Tag) (live:List Bool) (a to:Geo) (k:Int):
  za6 [.h kB b 0,.sl tg (live.map D.bool),.agg [.int .i64 a.l,.int .i64 a.d,.int .i64 a.c],.agg [.int .i64 to.l,.int .i64 to.d,.int .i64 to.c],.int .i64 k] [P0 T0 b idx B,P1 T1 idx B]=
   some (Ans.mk (.tup [.sl .own (pL (fP (B.wRead live a to k).1)),.int .i64 (B.wRead live a to k).2]) [] []):=by
 rw [zrS,zeH];unfold zkB Ben.wRead;have hm:=window_may a to k;cases hmw:mayW a to k
 ·rw [hmw] at hm;simp [hm]; rfl
 rw [hmw] at hm;obtain ⟨k0,k1⟩:=zsg.1 hmw;have hW:=zkY k0 k1;have hs:=zvG a to k;have hs0:=hW.s0;have hss:=hW.ss;have hmm:=hW.m;have hse:=hW.se;have hyw:=zbZ hW.yok;have hyc:to.cap=to.width*16:=rfl
 rw [if_neg (by simp)]
 unfold Ben.wGo;generalize (zbF a to k).1=fr at*;generalize (zbF a to k).2=en at*;have hz:=zsf;simp only [zcg,hm,hs,zac,zcn,Bool.not_true,zat,zc7,zmG,zaY]
 let st:Nat→List (List Int)→(Nat×List D×(Int×Int×Int×PUnit)×List D×Int×Int×PUnit)×List (List D)×List (List D)×PUnit:=fun j acc=>
  ((b,live.map D.bool,(a.l,a.d,a.c,PUnit.unit),pL (fP acc),en,fr+j,PUnit.unit),P0 T0 b idx B,P1 T1 idx B,PUnit.unit)
 have hst:st 0 []=((b,live.map D.bool,(a.l,a.d,a.c,PUnit.unit),[],en,fr,PUnit.unit),P0 T0 b idx B,P1 T1 idx B,PUnit.unit):=by
  simp only [zcg,st,Int.natCast_zero,Int.add_zero]; rfl
 rw [←hst]
 refine zpj (B.wStep live a fr) (fun j acc=>acc.length=j) st (fun y=>some (Ans.mk (.tup [.sl .own (pL (fP (if y.1=0 then y.2 else []))),.int .i64 y.1]) [] [])) (en - fr).toNat (by omega) rfl ?_ ?_ ?_
 ·rintro j acc hj hacc he
  unfold Ben.wStep at he ⊢;split
  ·simp [hacc]
  ·rename_i hne; rw [if_neg hne] at he; exact absurd he hne
 ·rintro again j acc hj hacc
  dsimp only [zcg,st]
  have hlt:fr+(j:Int) < en:=by omega
  have hcap:=zF5 a
  have hwr:IntKind.i64.wrap (fr+(j:Int)+1)=fr+((j+1:Nat):Int):=by rw [zah (by omega) (by omega)]; omega
  unfold Ben.wStep Ben.wOne
  by_cases hc:a.cap≤fr+(j:Int)
  ·have hsn:=zBg acc zen
   simp (disch:=first | omega | assumption | (simp; done) | fail) [-List.all_eq_true,hlt,hcap,hc,hz,hsn,hwr,hacc]
  ·rw [if_neg hc];have hone:=zB3 h hw .lent live a (fr+(j:Int));obtain ⟨ht1,ht2⟩:=zH0 (B:=B) (live:=live) (g:=a) (n:=fr+(j:Int))
   by_cases he:(B.sOne live a (fr+(j:Int))).2=0
   ·rw [ht2 he,he] at hone;have hsn:=zBg acc (B.sOne live a (fr+(j:Int))).1
    simp (disch:=first | omega | assumption | (simp; done) | fail) [-List.all_eq_true,hlt,hcap,hc,hone,hsn,hwr,hacc,zhO,he]
   ·rcases ht1 with ht | ht<;>rw [ht] at hone<;>
     simp (disch:=first | omega | assumption | (simp; done) | fail) [-List.all_eq_true,hlt,hcap,hc,hone,zhO,he]<;>rfl
 ·rintro again acc hacc
  dsimp only [zcg,st]
  have hfe:fr+(((en - fr).toNat:Nat):Int)=en:=by omega
  simp [-List.all_eq_true,-Int.ofNat_toNat,hfe,zfW]
theorem zJ0 {data:List (List Int)} (h:data.all (fun x=>decide (x.length=32))=true) {i:Nat} (hi:i < data.length):(data.getD i []).length=32:=by
 have:=List.all_eq_true.1 h _ (zc9 hi);simpa using this
theorem zry (h:At T0 T1 b idx B) (hw:B.w≤900000) (tg:Tag) (live:List Bool) (a to:Geo) (k:Int) (tg2:Tag) {data:List (List Int)} (hn:data.length < 100000) (hs:∀ x∈data,x.length=32→Sec x):
  zbt [.h kB b 0,.sl tg (live.map D.bool),.agg [.int .i64 a.l,.int .i64 a.d,.int .i64 a.c],.agg [.int .i64 to.l,.int .i64 to.d,.int .i64 to.c],.int .i64 k,.sl tg2 (pL (fP data))] [P0 T0 b idx B,P1 T1 idx B]=
   some (Ans.mk (.int .i64 (B.wWrite live a to k data).1) [] [P0 T0 b idx (B.wWrite live a to k data).2,P1 T1 idx (B.wWrite live a to k data).2]):=by
 rw [zqW,zeH,zdl]
 have hlm:(fP data).map (fun x=>(zb6 x.1 x.2,x.2))=data.map fun x=>(zb6 .fresh x,x):=by unfold fP; rw [List.map_map]; rfl
 rw [hlm]
 generalize hQ:(data.map fun x=>(zb6 .fresh x,x))=Q
 have hql:Q.length=data.length:=by rw [←hQ]; simp
 have hqg:∀ {i:Nat},i < data.length→(pL Q)[i]? =some (.sl (zb6 .fresh (data.getD i [])) (uL (data.getD i []))):=by
  intro i hi;refine zcW (?_:Q[i]? =some (zb6 .fresh (data.getD i []),data.getD i []));rw [←hQ,List.getElem?_map,List.getD_eq_getElem?_getD,List.getElem?_eq_getElem hi]; rfl
 unfold zi2 Ben.wWrite;have hm:=window_may a to k;have hsp:=zvG a to k;cases hmw:mayW a to k
 ·rw [hmw] at hm;simp [hm,hsp]
 rw [hmw] at hm;obtain ⟨k0,k1⟩:=zsg.1 hmw;have hW:=zkY k0 k1;have hs0:=hW.s0;have hss:=hW.ss;have hmm:=hW.m;have hse:=hW.se;have hyw:=zbZ hW.yok;have hyc:to.cap=to.width*16:=rfl
 have hwd:IntKind.i64.wrap ((zbF a to k).2 - (zbF a to k).1)=(zbF a to k).2 - (zbF a to k).1:=zah (by omega) (by omega)
 by_cases hl:(data.length:Int)=(zbF a to k).2 - (zbF a to k).1
 rotate_left
 ·rw [if_pos (.inr (.inl hl))]
  have hl':¬ (Q.length:Int)=(zbF a to k).2 - (zbF a to k).1:=by rw [hql]; exact hl
  simp [hm,hsp,hwd,hl']
 have hl':(Q.length:Int)=(zbF a to k).2 - (zbF a to k).1:=by rw [hql]; exact hl
 simp (disch:=first | omega | assumption | (simp; done) | fail) only [zcg,hm,hsp,zac,zcn,Bool.not_true,zat,zc7,zmG,zaY,zaH,hwd,ztU,hl',zhQ]
 let st:Nat→(Nat×List D×Int×List D×(Int×Int×Int×PUnit)×(Int×Int×Int×PUnit)×Int×List D×Int×Int×PUnit)×List (List D)×List (List D)×PUnit:=fun j=>
  ((b,live.map D.bool,k,pL Q,(a.l,a.d,a.c,PUnit.unit),(to.l,to.d,to.c,PUnit.unit),(zbF a to k).1,pL Q,(zbF a to k).2 - (zbF a to k).1,(j:Int),PUnit.unit),P0 T0 b idx B,P1 T1 idx B,PUnit.unit)
 show zca _ (st 0)=_
 refine zgd (fun x=>data.length - x.1.2.2.2.2.2.2.2.2.2.1.toNat) (fun _=>_) (fun x=>∃ j:Nat,j≤data.length∧(∀ i,i < j→(data.getD i []).length=32)∧x=st j) ?_ ⟨0,by omega,fun i hi=>by omega,rfl⟩ (by simp [st]; omega)
 rintro again _ ⟨j,hj,hall,rfl⟩ hag
 dsimp only [zcg,st]
 by_cases hlt:j < data.length
 ·have hlt':(j:Int) < (zbF a to k).2 - (zbF a to k).1:=by omega
  have hg:=hqg hlt
  by_cases h32:(data.getD j []).length=32
  ·have:=hag (st (j+1)) ⟨j+1,by omega,fun i hi=>by
    by_cases e:i=j
    ·subst e; exact h32
    ·exact hall i (by omega),rfl⟩ (by simp [st]; omega)
   dsimp only [zcg,st] at this
   rw [show ((j+1:Nat):Int)=(j:Int)+1 by omega] at this
   have h32':((uL (data.getD j [])).length:Int)=32:=by rw [zdM]; omega
   simp only [zcg,decide_eq_true hlt',za0,zab (show (0:Int)≤(j:Int) by omega),Int.toNat_natCast,zaj hg,zdY,h32',zhQ,zaH,zah (show (-9223372036854775808:Int)≤(j:Int)+1 by omega) (by omega)]
   exact this
  ·have hnall:data.all (fun x=>decide (x.length=32))=false:=by
    rw [List.all_eq_false]
    exact ⟨_,zc9 hlt,by simpa using h32⟩
   have h32':¬ ((uL (data.getD j [])).length:Int)=32:=by rw [zdM]; omega
   rw [if_pos (.inr (.inr hnall))]
   simp only [zcg,decide_eq_true hlt',za0,zab (show (0:Int)≤(j:Int) by omega),Int.toNat_natCast,zaj hg,zdY]
   rw [zDi h32']
 ·have hje:j=data.length:=by omega
  subst hje
  have hall':data.all (fun x=>decide (x.length=32))=true:=by
   rw [List.all_eq_true];intro x hx;obtain ⟨i,hi,rfl⟩:=List.mem_iff_getElem.1 hx;have:=hall i hi;rw [List.getD_eq_getElem?_getD,List.getElem?_eq_getElem hi] at this;simpa using this
  rw [if_neg (by rintro (e | e | e)<;>first | cases e | exact e hl | (rw [hall'] at e; cases e))]
  have hnl:¬ (data.length:Int) < (zbF a to k).2 - (zbF a to k).1:=by omega
  have hro:=zB9 a to;have hr0:=hW.r0;have hr1:=hW.r1;have hrr:=hW.rr;have hrw:=hW.r
  have hwk:IntKind.i64.wrap (k*zaT a to)=k*zaT a to:=zah (by omega) (by omega)
  simp only [zcg,decide_eq_false hnl,zat,hro,zac,zaY,zaH,hwk]
  have hk16:k < 16:=by rcases hrw with e | e | e<;>rw [e] at hr1 hr0<;>omega
  let s2:Nat→Ben→(Nat×List D×Int×List D×(Int×Int×Int×PUnit)×Int×Int×Int×PUnit)×List (List D)×List (List D)×PUnit:=fun j B'=>
   ((b,live.map D.bool,k,pL Q,(to.l,to.d,to.c,PUnit.unit),(zbF a to k).1,zaT a to,k*zaT a to+j,PUnit.unit),P0 T0 b idx B',P1 T1 idx B',PUnit.unit)
  have hs2:s2 0 B=((b,live.map D.bool,k,pL Q,(to.l,to.d,to.c,PUnit.unit),(zbF a to k).1,zaT a to,k*zaT a to,PUnit.unit),P0 T0 b idx B,P1 T1 idx B,PUnit.unit):=by
   simp only [zcg,s2,Int.natCast_zero,Int.add_zero]
  rw [←hs2]
  have hrr':(if (B.wRows live a to k data).1=0 then (B.wRows live a to k data).2.sFlush live else B.wRows live a to k data)=(fun y:Int×Ben=>if y.1=0 then y.2.sFlush live else y) (B.wRows live a to k data):=rfl
  rw [hrr'];unfold Ben.wRows
  have hRow:∀ r:Int,k*zaT a to≤r→r < (k+1)*zaT a to→Row to (rowW a to k data r)∧zcF to r=true:=by
   intro r r0 r1
   refine ⟨⟨by simp [rowW]; omega,fun x hx=>?_⟩,zbH.2 ⟨hW.yok,by omega,by omega⟩⟩
   obtain ⟨j,hj,rfl⟩:=List.mem_map.1 hx;have hj:=List.mem_range.1 hj
   obtain ⟨n0,n1⟩:=zse hW r0 r1 (j:=(j:Int)) (by omega) (by omega)
   have hi:(numP to r j - (zbF a to k).1).toNat < data.length:=by omega
   exact hs _ (zc9 hi) (zJ0 hall' hi)
  refine zpj (fun j B'=>B'.sWrite live to (k*zaT a to+j) (rowW a to k data (k*zaT a to+j))) (fun j B'=>Nx (8*j) B B') s2 (fun y=>some (Ans.mk (.int .i64 (if y.1=0 then y.2.sFlush live else y).1) [] [P0 T0 b idx (if y.1=0 then y.2.sFlush live else y).2,P1 T1 idx (if y.1=0 then y.2.sFlush live else y).2])) (zaT a to).toNat (by omega) (.rfl' h.ok (by omega)) ?_ ?_ ?_
  ·rintro i B' hi hx he
   obtain ⟨hR,hr⟩:=hRow (k*zaT a to+i) (by omega) (by omega)
   exact (hx.trans (zEr hx.ok hr hR)).mono (by omega)
  ·rintro again i B' hi hx
   dsimp only [zcg,s2];have hA:=h.nx hx;have hxw:=hx.w
   obtain ⟨hR,hr⟩:=hRow (k*zaT a to+i) (by omega) (by omega)
   have hsw:=zrw hA (by omega) .lent live to (k*zaT a to+i) .lent (ps:=(rowW a to k data (k*zaT a to+i)).map fun x=>(zb6 .fresh x,x)) (by simp [rowW]; omega) (by intro x hx; obtain ⟨y,hy,rfl⟩:=List.mem_map.1 hx; exact hR.sec y hy)
   have hsnd:((rowW a to k data (k*zaT a to+i)).map fun x=>(zb6 .fresh x,x)).map (·.2)=rowW a to k data (k*zaT a to+i):=by rw [List.map_map]; exact List.map_id _
   rw [hsnd] at hsw
   have hwk1:IntKind.i64.wrap (k+1)=k+1:=zah (by omega) (by omega)
   have hwk2:IntKind.i64.wrap ((k+1)*zaT a to)=(k+1)*zaT a to:=zah (by omega) (by omega)
   have hlt:k*zaT a to+(i:Int) < (k+1)*zaT a to:=by omega
   have hnums:=ztZ to (k*zaT a to+i)
   have hnd:zrB to (k*zaT a to+i)=numD to (k*zaT a to+i) to.width.toNat:=by unfold zrB; rw [if_pos hr]
   rw [hnd] at hnums
   simp (disch:=first | omega | assumption | (simp; done) | fail) only [zcg,zaH,hwk1,hwk2,decide_eq_true hlt,za0,hnums,zac,zbw,zab,Nat.zero_add,Nat.le_refl,zgx]
   have hwi:IntKind.i64.wrap (k*zaT a to+(i:Int)+1)=k*zaT a to+((i+1:Nat):Int):=by rw [zah (by omega) (by omega)]; omega
   generalize hr':k*zaT a to+(i:Int)=r at*
   let s3:Nat→(Nat×List D×Int×List D×(Int×Int×Int×PUnit)×Int×Int×Int×List D×List D×Int×Int×PUnit)×List (List D)×List (List D)×PUnit:=fun j=>
    ((b,live.map D.bool,k,pL Q,(to.l,to.d,to.c,PUnit.unit),(zbF a to k).1,zaT a to,r,pL ((((List.range j).map fun (j:Nat)=>data.getD (numP to r j - (zbF a to k).1).toNat [])).map fun x=>(zb6 .fresh x,x)),numD to r to.width.toNat,((to.width.toNat:Nat):Int),(j:Int),PUnit.unit),P0 T0 b idx B',P1 T1 idx B',PUnit.unit)
   show zca _ (s3 0)=_
   refine zck s3 to.width.toNat (by omega) ?_ ?_
   ·intro again j hj;dsimp only [zcg,s3]
    obtain ⟨n0,n1⟩:=zse hW (r:=r) (by omega) (by omega) (j:=(j:Int)) (by omega) (by omega)
    have hi:(numP to r j - (zbF a to k).1).toNat < data.length:=by omega
    have hg:=hqg hi
    have hgn:(numD to r to.width.toNat)[j]? =some (.int .i64 (numP to r j)):=zr6 to r to.width.toNat (by omega)
    have hlt:(j:Int) < ((to.width.toNat:Nat):Int):=by omega
    have hwn:IntKind.i64.wrap (numP to r j - (zbF a to k).1)=numP to r j - (zbF a to k).1:=zah (by omega) (by omega)
    have hsucc:pL ((((List.range j).map fun (j:Nat)=>data.getD (numP to r j - (zbF a to k).1).toNat [])).map fun x=>(zb6 .fresh x,x))++[D.sl (zb6 .fresh (data.getD (numP to r j - (zbF a to k).1).toNat [])) (uL (data.getD (numP to r j - (zbF a to k).1).toNat []))]=
     pL ((((List.range (j+1)).map fun (j:Nat)=>data.getD (numP to r j - (zbF a to k).1).toNat [])).map fun x=>(zb6 .fresh x,x)):=by
     rw [List.range_succ]; simp [pL]
    simp (disch:=first | omega | assumption | (simp; done) | fail) only [zcg,decide_eq_true hlt,za0,zab,Int.toNat_natCast,Nat.zero_add,zaj hgn,zaY,zaH,hwn,zaj hg,zdY,hsucc,zah,List.length_append,List.length_cons,List.length_nil,zgx,ztU,List.length_map,List.length_range]
    rw [show ((j+1:Nat):Int)=(j:Int)+1 by omega]
   ·intro again;dsimp only [zcg,s3]
    have hnl2:¬ ((to.width.toNat:Nat):Int) < ((to.width.toNat:Nat):Int):=by omega
    have hcut:∀ l:List D,cut 0 l.length l=l:=fun l=>zqZ rfl
    have hrw:((List.range to.width.toNat).map fun (j:Nat)=>data.getD (numP to r j - (zbF a to k).1).toNat [])=rowW a to k data r:=rfl
    rw [hrw];simp only [zcg,decide_eq_false hnl2,zat]
    rw [zab (by omega),hcut]
    refine Eq.trans (congrArg (fun x=>zam x _) hsw) ?_
    simp only [zcg,zac,zbu,zcv,zaY]
    by_cases he:(B'.sWrite live to r (rowW a to k data r)).1=0
    ·rw [he,zhQ rfl,if_pos rfl,zaH,hwi]
    ·rw [zDi he,if_neg he,if_neg he]
  ·rintro again B' hx
   dsimp only [zcg,s2];have hA:=h.nx hx;have hxw:=hx.w
   have hsf:=zrx hA (by omega) .lent live
   have hp:P0 T0 b idx (B'.sFlush live).2=P0 T0 b idx B':=zEq _ _ (zEo B' live)
   have hwk1:IntKind.i64.wrap (k+1)=k+1:=zah (by omega) (by omega)
   have hwk2:IntKind.i64.wrap ((k+1)*zaT a to)=(k+1)*zaT a to:=zah (by omega) (by omega)
   have hnl:¬ k*zaT a to+(((zaT a to).toNat:Nat):Int) < (k+1)*zaT a to:=by omega
   simp only [zcg,zaH,hwk1,hwk2,decide_eq_false hnl,zat,hsf,zac,zbu,zcv,zaY,if_true,hp]
end
end Wf

namespace Wf
open Go Go.RowKit Go.Proofs
set_option linter.unusedSimpArgs false
set_option linter.unusedVariables false
set_option maxHeartbeats 4000000
theorem zvH {σ:Type} {f g:Nat→σ→Int×σ} (I:Nat→σ→Prop):∀ (n k:Nat) (s:σ),I k s→(∀ j s,k≤j→j < k+n→I j s→f j s=g j s)→(∀ j s,k≤j→j < k+n→I j s→(f j s).1=0→I (j+1) (f j s).2)→runE f k n s=runE g k n s
 | 0,k,s,_,_,_=>rfl
 | n+1,k,s,hI,h1,h2=>by
  unfold runE
  have e:=h1 k s (by omega) (by omega) hI
  have h3:=h2 k s (by omega) (by omega) hI
  rw [←e]
  by_cases h0:(f k s).1=0
  ·rw [if_pos h0,if_pos h0]
   exact zvH I n (k+1) _ (h3 h0) (fun j s a b=>h1 j s (by omega) (by omega)) fun j s a b=>h2 j s (by omega) (by omega)
  ·rw [if_neg h0,if_neg h0]
section
variable {B B':Ben} {live:List Bool}
theorem Like.wActs (h:Like B B') (g:Geo) (r:Int) (data:List (List Int)):B'.wActs live g r data=B.wActs live g r data:=by
 unfold Ben.wActs;simp only [h.up]
theorem Like.fActs (h:Like B B'):B'.fActs live=B.fActs live:=by
 unfold Ben.fActs
 have:B'.ds.length=B.ds.length:=by have:=h.1; unfold Ben.n at this; omega
 rw [this];simp only [h.up]
theorem zyS {as':List Act} (h:Does B as'):Like B (does B as'):=⟨h.nx.n,h.failed⟩
theorem zCa {g:Geo} {r:Int} {data:List (List Int)} {e b:Int} (e0:0≤e) (c:Int→Int→List Int):
  curs c (B.wActs live g r data) e b=if b=36+r∧e < g.d∧B.up live e=true then atR g r data e else c e b:=by
 by_cases hc:b=36+r∧e < g.d∧B.up live e=true
 ·rw [if_pos hc,hc.1]
  have:=zyl (B:=B) (live:=live) (g:=g) (r:=r) (data:=data) (d:=e.toNat) (by omega) (by rw [show ((e.toNat:Nat):Int)=e by omega]; exact hc.2.2) c
  rw [show ((e.toNat:Nat):Int)=e by omega] at this
  exact this
 ·rw [if_neg hc]
  refine zhA (fun a ha=>?_) _
  unfold Ben.wActs at ha;obtain ⟨d,hd,ha⟩:=List.mem_flatMap.1 ha;have hd:=List.mem_range.1 hd;split at ha
  ·rename_i hu;rw [List.mem_singleton.1 ha]
   unfold Act.at
   dsimp only;rw [decide_eq_false_iff_not]
   rintro ⟨rfl,rfl⟩
   exact hc ⟨rfl,by omega,hu⟩
  ·cases ha
theorem zCb {e b:Int} (c:Int→Int→List Int):curs c (B.fActs live) e b=c e b:=zhA (zwA e b) c
def Act.d:Act→Int
 | .w d _ _=>d
 | .f d=>d
theorem zEs {e:Int} (e0:0≤e):∀ (l:List Act) {B:Ben},B.Ok→(∀ a∈l,a.Ok B)→(∀ a∈l,a.d≠e)→(does B l).nP e=B.nP e
 | [],B,_,_,_=>rfl
 | a::l,B,hB,h1,h2=>by
  have ha:=h1 a (List.mem_cons_self ..);show (does (B.does1 a) l).nP e=_
  rw [zEs e0 l (ziz hB ha).ok (fun c hc=>zmX hB ha (h1 c (List.mem_cons_of_mem _ hc))) fun c hc=>h2 c (List.mem_cons_of_mem _ hc),zBe ha e0]
  have:=h2 a (List.mem_cons_self ..)
  cases a with
  | w d a x=>exact if_neg (fun q=>this q.symm)
  | f d=>exact if_neg (fun q=>this q.symm)
theorem zH1 {g:Geo} {r:Int} {data:List (List Int)}:∀ a∈B.wActs live g r data,B.up live a.d=true∧0≤a.d∧a.d < g.d:=fun a ha=>by
 unfold Ben.wActs at ha;obtain ⟨d,hd,ha⟩:=List.mem_flatMap.1 ha;have hd:=List.mem_range.1 hd;split at ha
 ·rename_i hu;rw [List.mem_singleton.1 ha]
  exact ⟨hu,by show (0:Int)≤(d:Int); omega,by show (d:Int) < _; omega⟩
 ·cases ha
theorem zH2 {l:List Act} (hB:B.Ok) (hd:B.down=false) (hD:Does B l) (hok:∀ a∈l,a.Ok B) (hup:∀ a∈l,B.up live a.d=true) {e:Int} (e0:0≤e):
  (does B (l++B.fActs live)).nP e=if B.up live e=true then 0 else B.nP e:=by
 rw [zth,←(zyS hD).fActs,zF1 (zEp hB hok).1 e0,(zyS hD).up]
 by_cases hu:B.up live e=true
 ·rw [if_pos hu,if_pos hu]
 ·rw [if_neg hu,if_neg hu]
  exact zEs e0 l hB hok fun a ha q=>hu (by rw [←q]; exact hup a ha)
end
section
variable {a to:Geo} {k:Int} {data:List (List Int)}
structure WinD (a to:Geo) (k:Int) (data:List (List Int)):Prop where
 k0:0≤k
 k1:k < winP a to
 len:(data.length:Int)=(zbF a to k).2 - (zbF a to k).1
 sec:∀ x∈data,Sec x
theorem WinD.win (h:WinD a to k data):Win a to k:=zkY h.k0 h.k1
theorem WinD.row (h:WinD a to k data) {r:Int} (r0:k*zaT a to≤r) (r1:r < (k+1)*zaT a to):Row to (rowW a to k data r)∧zcF to r=true:=by
 have hW:=h.win;have:=hW.r0;have:=hW.r1;have hyw:=zbZ hW.yok;have hl:=h.len
 refine ⟨⟨by simp [rowW]; omega,fun x hx=>?_⟩,zbH.2 ⟨hW.yok,by omega,by omega⟩⟩
 obtain ⟨j,hj,rfl⟩:=List.mem_map.1 hx;have hj:=List.mem_range.1 hj
 obtain ⟨n0,n1⟩:=zse hW r0 r1 (j:=(j:Int)) (by omega) (by omega)
 exact h.sec _ (zc9 (by omega))
def Ben.wwA (B:Ben) (live:List Bool) (a to:Geo) (k:Int) (data:List (List Int)) (m:Nat):List Act:=
 (List.range m).flatMap fun (j:Nat)=>B.wActs live to (k*zaT a to+j) (rowW a to k data (k*zaT a to+j))
def Ben.wwActs (B:Ben) (live:List Bool) (a to:Geo) (k:Int) (data:List (List Int)):List Act:=B.wwA live a to k data (zaT a to).toNat++B.fActs live
variable {B:Ben} {live:List Bool}
theorem zxa (h:WinD a to k data) {x:Act} (hx:x∈B.wwA live a to k data (zaT a to).toNat):∃ r:Int,k*zaT a to≤r∧r < (k+1)*zaT a to∧x∈B.wActs live to r (rowW a to k data r):=by
 obtain ⟨j,hj,hx⟩:=List.mem_flatMap.1 hx;have hj:=List.mem_range.1 hj;have:=h.win.rr
 exact ⟨k*zaT a to+j,by omega,by omega,hx⟩
theorem zyT (h:WinD a to k data):∀ x∈B.wwActs live a to k data,x.Ok B:=fun x hx=>by
 rcases List.mem_append.1 hx with hx | hx
 ·obtain ⟨r,r0,r1,hx⟩:=zxa h hx;obtain ⟨hR,hr⟩:=h.row r0 r1;exact zA1 hr hR x hx
 ·exact zwz x hx
theorem zyU (h:WinD a to k data):nW (B.wwActs live a to k data)≤32:=by
 have hW:=h.win;have hd:=ok_d hW.yok
 have:∀ m:Nat,nW (B.wwA live a to k data m)≤8*m:=by
  intro m
  induction m with
  | zero=>simp [nW,Ben.wwA]
  | succ m ih=>
   unfold Ben.wwA at ih ⊢;rw [List.range_succ,List.flatMap_append,zti];simp only [List.flatMap_cons,List.flatMap_nil,List.append_nil];have:=zsc B live to (k*zaT a to+m) (rowW a to k data (k*zaT a to+m));omega
 have h2:=this (zaT a to).toNat;unfold Ben.wwActs;rw [zti,zsd];rcases hW.r with e | e | e<;>rw [e] at h2 ⊢<;>simp at h2 ⊢<;>omega
theorem zt7 (hB:B.Ok) (h:WinD a to k data):B.wWrite live a to k data=runA (B.wwActs live a to k data) B:=by
 have hW:=h.win;have hl:=h.len;have hrr:=hW.rr;unfold Ben.wWrite
 rw [if_neg (by
  rintro (e | e | e)
  ·rw [zsg.2 ⟨h.k0,h.k1⟩] at e; cases e
  ·exact e hl
  ·rw [List.all_eq_true.2 (fun x hx=>by simpa using (h.sec x hx).len)] at e; cases e)]
 have hrows:B.wRows live a to k data=runA (B.wwA live a to k data (zaT a to).toNat) B:=by
  unfold Ben.wRows Ben.wwA
  rw [zvH (g:=fun j B'=>runA (B.wActs live to (k*zaT a to+(j:Nat)) (rowW a to k data (k*zaT a to+(j:Nat)))) B') (fun _ B'=>B'.Ok∧Like B B') _ _ _ ⟨hB,.refl B⟩ ?_ ?_,zp1,List.range_eq_range']
  ·rintro j B' _ hj ⟨hB',hL⟩
   obtain ⟨hR,hr⟩:=h.row (r:=k*zaT a to+(j:Nat)) (by omega) (by omega)
   unfold Ben.sWrite
   rw [zlU hr hR,if_neg (by simp),hL.wActs]
  ·rintro j B' _ hj ⟨hB',hL⟩ _
   obtain ⟨hR,hr⟩:=h.row (r:=k*zaT a to+(j:Nat)) (by omega) (by omega)
   unfold Ben.sWrite
   rw [zlU hr hR,if_neg (by simp)]
   obtain ⟨h1,h2⟩:=zt4 _ hB' (zt5 (B:=B') (live:=live) hr hR);exact ⟨h1.ok,hL.trans h2⟩
 rw [hrows];unfold Ben.wwActs;rw [zn8]
 obtain ⟨h1,h2⟩:=zt4 (B.wwA live a to k data (zaT a to).toNat) hB (fun x hx=>by
  obtain ⟨r,r0,r1,hx⟩:=zxa h hx;obtain ⟨hR,hr⟩:=h.row r0 r1;exact zt5 hr hR x hx)
 unfold Ben.sFlush;rw [h2.fActs]
theorem zz6 (h:WinD a to k data) {e b:Int} (e0:0≤e) (c:Int→Int→List Int):
  curs c (B.wwActs live a to k data) e b=if k*zaT a to≤b - 36∧b - 36 < (k+1)*zaT a to∧e < to.d∧B.up live e=true then atR to (b - 36) (rowW a to k data (b - 36)) e else c e b:=by
 have hW:=h.win;have hrr:=hW.rr;unfold Ben.wwActs;rw [zn9,zCb]
 have key:∀ m:Nat,curs c (B.wwA live a to k data m) e b=if k*zaT a to≤b - 36∧b - 36 < k*zaT a to+m∧e < to.d∧B.up live e=true then atR to (b - 36) (rowW a to k data (b - 36)) e else c e b:=by
  intro m
  induction m with
  | zero=>rw [if_neg (by omega)]; rfl
  | succ m ih=>
   unfold Ben.wwA at ih ⊢;rw [List.range_succ,List.flatMap_append,zn9];simp only [List.flatMap_cons,List.flatMap_nil,List.append_nil];rw [zCa e0,ih]
   by_cases hb:b=36+(k*zaT a to+m)
   ·by_cases hc:e < to.d∧B.up live e=true
    ·rw [if_pos ⟨hb,hc⟩,if_pos ⟨by omega,by omega,hc⟩,show b - 36=k*zaT a to+m by omega]
    ·rw [if_neg (fun q=>hc q.2),if_neg (fun q=>hc q.2.2),if_neg (fun q=>hc q.2.2)]
   ·rw [if_neg (fun q=>hb q.1)]
    by_cases hc:k*zaT a to≤b - 36∧b - 36 < k*zaT a to+m∧e < to.d∧B.up live e=true
    ·rw [if_pos hc,if_pos ⟨hc.1,by omega,hc.2.2⟩]
    ·rw [if_neg hc,if_neg (fun q=>hc ⟨q.1,by omega,q.2.2⟩)]
 rw [key]
 have:k*zaT a to+((zaT a to).toNat:Int)=(k+1)*zaT a to:=by rcases hW.r with e | e | e<;>omega
 rw [this]
end
section
variable {U V:Tb} {b:Nat} {idx:List Nat} {B:Ben} {n:Nat} {K:Int}
theorem Run.win (h:Run U V b idx B n K) (hK:K≤800000) (tg:Tag) (live:List Bool) {a to:Geo} {k:Int} (tg2:Tag) {data:List (List Int)} (hD:WinD a to k data):∃ B1,
  zbt [.h kB b 0,.sl tg (live.map D.bool),.agg [.int .i64 a.l,.int .i64 a.d,.int .i64 a.c],.agg [.int .i64 to.l,.int .i64 to.d,.int .i64 to.c],.int .i64 k,.sl tg2 (pL (fP data))] [P0 U b idx B,P1 V idx B]=some (Ans.mk (.int .i64 0) [] [P0 U b idx B1,P1 V idx B1])∧
  Run U V b idx B1 n (K+32)∧(∀ e,B1.failed e=B.failed e)∧B1=does B (B.wwActs live a to k data)∧
  (∀ e x:Int,0≤e→0≤x→x < 52→B1.cur e x=if k*zaT a to≤x - 36∧x - 36 < (k+1)*zaT a to∧e < to.d∧B.up live e=true then atR to (x - 36) (rowW a to k data (x - 36)) e else B.cur e x)∧
  (∀ e:Int,0≤e→B1.nP e=if B.up live e=true then 0 else B.nP e):=by
 have hw:=h.w;have hl:=hD.len;have hm:=hD.win.m;have hss:=hD.win.ss
 have hww:=zry h.at' (by omega) tg live a to k tg2 (data:=data) (by omega) (fun x hx _=>hD.sec x hx)
 have hok:=zyT (B:=B) (live:=live) hD
 have hDo:=ziA (B.wwActs live a to k data) h.at'.ok h.down hok (.inl (by rw [h.left]; omega))
 rw [zt7 h.at'.ok hD,hDo.run] at hww;have hn:=zyU (B:=B) (live:=live) hD;have hnx:=hDo.nx.w
 refine ⟨_,hww,⟨h.at'.nx hDo.nx,hDo.nx.n.trans h.num,hDo.down.trans h.down,by rw [hDo.left,h.left]; rfl,by show (does B (B.wwActs live a to k data)).w≤K+32; omega⟩,hDo.failed,rfl,fun e x e0 x0 x1=>?_,fun e e0=>?_⟩
 ·rw [hDo.cur e x e0 x0 x1,zz6 hD e0]
 ·have hDo2:=ziA (B.wwA live a to k data (zaT a to).toNat) h.at'.ok h.down (fun x hx=>hok x (List.mem_append_left _ hx)) (.inl (by rw [h.left]; omega))
  exact zH2 h.at'.ok h.down hDo2 (fun x hx=>hok x (List.mem_append_left _ hx)) (fun x hx=>by
   obtain ⟨r,r0,r1,hx⟩:=zxa hD hx;exact (zH1 x hx).1) e0
theorem zH3 (T0 T1:Tb) {n:Nat} (h0:1≤n) (h8:n≤8):∃ U V idx,
  zbL [.int .i64 n] [T0,T1]=some (Ans.mk (.tup [.h kB T0.length 0,.int .i64 0]) [] [P0 U T0.length idx (Ben.new n),P1 V idx (Ben.new n)])∧
  Run U V T0.length idx (Ben.new n) n 0∧Still (Ben.new n):=
 ⟨_,_,_,zJf T0 T1 h0 h8,⟨zEg T0 T1 h8,by simp [Ben.new,Ben.n],rfl,rfl,Int.le_refl _⟩,zyO h8⟩
theorem zyV {live:List Bool} {a to:Geo} {k:Int} (k0:0≤k) (k1:k < winP a to) (v:Int→List Int) (hv:∀ m,(zbF a to k).1≤m→m < (zbF a to k).2→B.wOne live a m=(v m,0)):
  B.wRead live a to k=((List.range ((zbF a to k).2 - (zbF a to k).1).toNat).map fun (j:Nat)=>v ((zbF a to k).1+j),0):=by
 have key:∀ (m j:Nat) (acc:List (List Int)),j+m=((zbF a to k).2 - (zbF a to k).1).toNat→runE (B.wStep live a (zbF a to k).1) j m acc=(0,acc++(List.range' j m).map fun (j:Nat)=>v ((zbF a to k).1+j)):=by
  intro m
  induction m with
  | zero=>intro j acc _; simp [runE]
  | succ m ih=>
   intro j acc hj
   have h1:=hv ((zbF a to k).1+j) (by omega) (by omega)
   have:B.wStep live a (zbF a to k).1 j acc=(0,acc++[v ((zbF a to k).1+j)]):=by unfold Ben.wStep; rw [h1,if_pos rfl]
   unfold runE
   rw [this,if_pos rfl,ih (j+1) _ (by omega),List.range'_succ]
   simp
 unfold Ben.wRead Ben.wGo
 rw [zsg.2 ⟨k0,k1⟩,if_neg (by simp),key _ 0 [] (by omega),List.range_eq_range']
 simp
end
end Wf

namespace Wf
open Go Go.RowKit Go.Proofs
set_option linter.unusedSimpArgs false
set_option linter.unusedVariables false
set_option maxHeartbeats 4000000
theorem zH4:zbp []=some (.bool true):=by
 have e:=zlu
 rw [e,zab (by rfl)]
 unfold zfk
 obtain ⟨U,V,idx,hnew,hB,hS⟩:=zH3 [] [] (n:=4) (by omega) (by omega)
 have hrd:=zt6 hB.at' (by have:=hB.w; omega) .full [true,true,true,true] ⟨5,3,1⟩ ⟨5,4,1⟩ 15
 have hx:=zyV (B:=Ben.new 4) (live:=[true,true,true,true]) (a:=⟨5,3,1⟩) (to:=⟨5,4,1⟩) (k:=15) (by omega) (by decide) (fun _=>zen) (fun m m0 m1=>by
  have h45:(zbF ⟨5,3,1⟩ ⟨5,4,1⟩ 15).1=45:=by decide
  rw [h45] at m0;unfold Ben.wOne
  rw [if_pos (by show (32:Int)≤m; omega)])
 rw [hx] at hrd
 have hl:(List.range ((zbF ⟨5,3,1⟩ ⟨5,4,1⟩ 15).2 - (zbF ⟨5,3,1⟩ ⟨5,4,1⟩ 15).1).toNat).map (fun (j:Nat)=>zen)=[zen,zen,zen]:=by
  rw [show ((zbF ⟨5,3,1⟩ ⟨5,4,1⟩ 15).2 - (zbF ⟨5,3,1⟩ ⟨5,4,1⟩ 15).1).toNat=3 by decide]; rfl
 rw [hl] at hrd;have hrd':za6 [.h kB 0 0,.sl .full [.bool true,.bool true,.bool true,.bool true],.agg [.int .i64 5,.int .i64 3,.int .i64 1],.agg [.int .i64 5,.int .i64 4,.int .i64 1],.int .i64 15] [P0 U 0 idx (Ben.new 4),P1 V idx (Ben.new 4)]=some (Ans.mk (.tup [.sl .own (pL (fP [zen,zen,zen])),.int .i64 0]) [] []):=hrd;have hp:pL (fP [zen,zen,zen])=[.sl .fresh (uL zen),.sl .fresh (uL zen),.sl .fresh (uL zen)]:=rfl;rw [hp] at hrd'
 have hs:=zyD .fresh .lent zen zen (by decide)
 have hnew':zbL [.int .i64 4] [[],[]]=some (Ans.mk (.tup [.h kB 0 0,.int .i64 0]) [] [P0 U 0 idx (Ben.new 4),P1 V idx (Ben.new 4)]):=hnew;simp [hnew',hrd',zhO,hs,zsf]
end Wf

namespace Wf
open Go Go.RowKit Go.Proofs
set_option linter.unusedSimpArgs false
set_option linter.unusedVariables false
set_option maxHeartbeats 4000000
section
variable {B:Ben}
theorem Like.lostN {B':Ben} (h:Like B B') (live:List Bool) (g:Geo):B'.lostN live g=B.lostN live g:=by unfold Ben.lostN; simp only [h.up]
end
section
variable {U V:Tb} {b:Nat} {idx:List Nat} {B:Ben} {n:Nat} {K:Int}
end
end Wf

namespace Wf
open Go Go.RowKit Go.Proofs
set_option linter.unusedSimpArgs false
set_option linter.unusedVariables false
set_option maxHeartbeats 4000000
theorem zyW:∀ (p:List (Int×List Int)) (ks:List Bool) (k:Nat) (w:Int×List Int),p[k]? =some w→kept (p.take (k+1)) ks=kept (p.take k) ks++(if (ks[k]?).getD false=true then [w] else [])
 | [],_,k,w,h=>by simp at h
 | v::p,[],k,w,h=>by
  have:∀ q:List (Int×List Int),kept q []=[]:=by intro q; cases q<;>rfl
  rw [this,this]; rfl
 | v::p,b::ks,0,w,h=>by
  cases h
  cases b<;>rfl
 | v::p,b::ks,k+1,w,h=>by
  have ih:=zyW p ks k w (by simpa using h)
  show (if b then v::kept (p.take (k+1)) ks else kept (p.take (k+1)) ks)=(if b then v::kept (p.take k) ks else kept (p.take k) ks)++_
  rw [ih];cases b<;>rfl
theorem zEt {ks:List Bool} {k:Nat} (h:k < ks.length):(ks.map D.bool)[k]? =some (.bool ((ks[k]?).getD false)):=by
 rw [List.getElem?_map,List.getElem?_eq_getElem h]; rfl
section
variable {T:Tb} {i:Nat} {s:DS}
theorem zH5 (h:T[i]? =some s.cells) (hs:s.Ok) (hn:s.pend.length≤1000000) (tg:Tag) (ks:List Bool):zbX [.h kD i 0,.sl tg (ks.map D.bool)] [T]=some (Ans.mk (.tup []) [] [T.set i (s.crash ks).cells]):=by
 rw [znz,zeH];unfold zgs
 have hlp:(s.pend.map wD).length=s.pend.length:=by simp
 simp (disch:=first | omega | assumption | (simp; done) | fail) only [zcg,zaj h,zaj (zka hs.len),zbw,zab,Nat.zero_add,Nat.le_refl,hlp]
 have hkm:∀ k,∀ w∈kept (s.pend.take k) ks,Sec w.2∧0≤w.1∧w.1 < 52:=fun k w hw=>hs.pend w (List.mem_of_mem_take (ziy _ _ w hw))
 let st:Nat→(Nat×List D×(Nat×Nat×Nat)×Int×Int×PUnit)×List (List D)×PUnit:=fun k=>((i,ks.map D.bool,(i,0,s.pend.length),(s.pend.length:Int),(k:Int),PUnit.unit),T.set i (s.puts (kept (s.pend.take k) ks)).cells,PUnit.unit)
 have hst:st 0=((i,ks.map D.bool,(i,0,s.pend.length),(s.pend.length:Int),0,PUnit.unit),T,PUnit.unit):=by
  show ((i,ks.map D.bool,(i,0,s.pend.length),(s.pend.length:Int),0,PUnit.unit),T.set i (s.puts (kept [] ks)).cells,PUnit.unit)=_
  rw [show kept [] ks=[] by cases ks<;>rfl,show s.puts []=s from rfl,set_same h]
 rw [←hst]
 refine zck st s.pend.length (by omega) ?_ ?_
 ·intro again k hk;dsimp only [st];obtain ⟨w,hw⟩:∃ w,s.pend[k]? =some w:=⟨_,List.getElem?_eq_getElem hk⟩;obtain ⟨hws,hw0,hw1⟩:=hs.pend w (List.mem_of_getElem? hw);obtain ⟨pk,pf,pp⟩:=zkb hs (kept (s.pend.take k) ks) (hkm k);have hU:=zhq h (s.puts (kept (s.pend.take k) ks)).cells;have hpd:=zka (s:=s.puts (kept (s.pend.take k) ks)) pk.len;rw [pp] at hpd;have hsn:=zyW s.pend ks k w hw
  by_cases hlt:k < ks.length
  ·have hg:=zEt hlt;cases hb:(ks[k]?).getD false
   ·rw [hb] at hg hsn
    rw [hsn,if_neg (by simp),List.append_nil]
    simp (disch:=first | omega | assumption | (simp; done) | fail) [zaj hU,zaj hpd,zaj (zvx hw),zdh _ hws.len,hws.len,zjV hws.len,zg5 pk.len,hk,zjU,hlt,zaj hg,zah]
   ·rw [hb] at hg hsn
    have hnx:zaU (T.set i (s.puts (kept (s.pend.take k) ks)).cells) i (w.1.toNat*32) (uL w.2)=T.set i (s.puts (kept (s.pend.take (k+1)) ks)).cells:=by
     rw [zc5 hU,zdM,hws.len,zDx pk.len (by omega),List.set_set,hsn,if_pos rfl]
     show _=T.set i (s.puts (kept (s.pend.take k) ks++[w])).cells;unfold DS.puts;rw [List.foldl_append]; rfl
    simp (disch:=first | omega | assumption | (simp; done) | fail) [zaj hU,zaj hpd,zaj (zvx hw),zdh _ hws.len,hws.len,zjV hws.len,zg5 pk.len,hk,zjU,hlt,zaj hg,zws pk.len,hw0,hw1,zah,hnx]
  ·have hb:(ks[k]?).getD false=false:=by rw [List.getElem?_eq_none (by omega)]; rfl
   rw [hb] at hsn
   rw [hsn,if_neg (by simp),List.append_nil]
   simp (disch:=first | omega | assumption | (simp; done) | fail) [zaj hU,zaj hpd,zaj (zvx hw),zdh _ hws.len,hws.len,zjV hws.len,zg5 pk.len,hk,zjU,hlt,zah]
 ·intro again;dsimp only [st];rw [List.take_length]
  have hkm':∀ w∈kept s.pend ks,Sec w.2∧0≤w.1∧w.1 < 52:=fun w hw=>hs.pend w (ziy _ _ w hw)
  obtain ⟨pk,pf,pp⟩:=zkb hs (kept s.pend ks) hkm';have hU:=zhq h (s.puts (kept s.pend ks)).cells
  have hz':zaU (T.set i (s.puts (kept s.pend ks)).cells) i 1664 [D.sl Tag.own []]=T.set i (s.crash ks).cells:=by
   have:=ztT hU pk.len [];rw [List.set_set] at this; exact this
  simp (disch:=first | omega | assumption | (simp; done) | fail) [zaj hU,zg5 pk.len,hz']
end
def Ben.crashK (B:Ben) (ks:List Bool):Nat→Ben×List Bool
 | 0=>(B,ks)
 | k+1=>((B.crashK ks k).1.setD k (((B.crashK ks k).1.dk k).crash ((B.crashK ks k).2.take ((B.crashK ks k).1.dk k).pend.length)),(B.crashK ks k).2.drop ((B.crashK ks k).1.dk k).pend.length)
def Ben.crash (B:Ben) (ks:List Bool):Ben:={ (B.crashK ks B.ds.length).1 with left:= -1,down:=false }
section
variable {B:Ben}
theorem zyX {s:DS} (h:s.Ok) (ks:List Bool):(s.crash ks).failed=s.failed:=(zkb h (kept s.pend ks) fun w hw=>h.pend w (ziy _ _ w hw)).2.1
theorem zt8 (hB:B.Ok) (ks:List Bool):∀ k,k≤B.ds.length→Nx 0 B (B.crashK ks k).1∧(B.crashK ks k).1.w=B.w∧∀ e:Int,0≤e→if e < k then ∃ l,(B.crashK ks k).1.dk e=(B.dk e).crash l else (B.crashK ks k).1.dk e=B.dk e
 | 0,_=>⟨.rfl' hB (by omega),rfl,fun e e0=>by rw [if_neg (by omega)]; rfl⟩
 | k+1,hk=>by
  obtain ⟨h1,h1w,h2⟩:=zt8 hB ks k (by omega)
  have hn:=h1.n;unfold Ben.n at hn
  have hd:(B.crashK ks k).1.is k=true:=zeI.2 ⟨by omega,by unfold Ben.n; omega⟩
  have hk2:=h2 k (by omega)
  rw [if_neg (by omega)] at hk2
  have hok:=zFe (zkc hB k).1 ((B.crashK ks k).2.take (B.dk k).pend.length)
  have hc:(B.crashK ks (k+1)).1=(B.crashK ks k).1.setD k ((B.dk k).crash ((B.crashK ks k).2.take (B.dk k).pend.length)):=by
   show (B.crashK ks k).1.setD k (((B.crashK ks k).1.dk k).crash ((B.crashK ks k).2.take ((B.crashK ks k).1.dk k).pend.length))=_;rw [hk2]
  rw [hc]
  refine ⟨⟨zn7 h1.ok hok ?_,by rw [zGr]; exact h1.n,by rw [zDB]; exact h1.le,by rw [zDB]; exact h1.w⟩,by rw [zDB]; exact h1w,fun e e0=>?_⟩
  ·show (([]:List (Int×List Int)).length:Int)≤_;have:=h1.ok.w0; simpa using this
  ·rw [zge hd e0]
   by_cases he:e=k
   ·subst he; rw [if_pos (by omega),if_pos rfl]; exact ⟨_,rfl⟩
   ·rw [if_neg he];have:=h2 e e0
    by_cases hlt:e < k
    ·rw [if_pos hlt] at this; rw [if_pos (by omega)]; exact this
    ·rw [if_neg hlt] at this; rw [if_neg (by omega)]; exact this
theorem zmJ (hB:B.Ok) (ks:List Bool):Nx 0 B (B.crash ks)∧(B.crash ks).w=B.w∧(B.crash ks).left= -1∧(B.crash ks).down=false∧∀ e:Int,B.is e=true→∃ l,(B.crash ks).dk e=(B.dk e).crash l:=by
 obtain ⟨h1,h1w,h2⟩:=zt8 hB ks B.ds.length (Nat.le_refl _)
 refine ⟨⟨⟨h1.ok.w0,by show (-1:Int)≤1000000000; omega,h1.ok.small,h1.ok.ds⟩,h1.n,h1.le,h1.w⟩,h1w,rfl,rfl,fun e he=>?_⟩
 obtain ⟨e0,e1⟩:=zeI.1 he;have:=h2 e e0
 rw [if_pos (by unfold Ben.n at e1; exact e1)] at this
 exact this
end
section
variable {T0 T1:Tb} {b:Nat} {idx:List Nat} {B:Ben}
theorem zH6 (h:At T0 T1 b idx B) (hw:B.w≤1000000) (tg:Tag) (ks:List Bool):
  zbo [.h kB b 0,.sl tg (ks.map D.bool)] [P0 T0 b idx B,P1 T1 idx B]=some (Ans.mk (.tup []) [] [P0 T0 b idx (B.crash ks),P1 T1 idx (B.crash ks)]):=by
 rw [zlo,zeH];unfold zfj;have hrow:(P0 T0 b idx B)[b]? =some [.int .i64 B.w,.int .i64 B.left,.bool B.down,.sl .own (idx.map hD)]:=h.get0;have hsm:=h.ok.small
 simp (disch:=first | omega | assumption | (simp; done) | fail) only [zcg,zaj hrow,zfz,zlM,zbw,zab,Nat.zero_add,Nat.le_refl,List.length_map,h.len]
 have hcr:=fun k hk=>zt8 h.ok ks k hk
 have hp:∀ k,P0 T0 b idx (B.crashK ks k).1=P0 T0 b idx B:=by
  intro k
  induction k with
  | zero=>rfl
  | succ k ih=>rw [←ih]; rfl
 let st:Nat→(Nat×List D×(Nat×Nat×Nat)×Int×Int×PUnit)×List (List D)×List (List D)×PUnit:=fun k=>((b,(B.crashK ks k).2.map D.bool,(b,0,B.ds.length),(B.ds.length:Int),(k:Int),PUnit.unit),P0 T0 b idx B,P1 T1 idx (B.crashK ks k).1,PUnit.unit)
 show zca _ (st 0)=_
 refine zck st B.ds.length (by omega) ?_ ?_
 ·intro again k hk;dsimp only [st]
  obtain ⟨h1,h1w,h2⟩:=hcr k (by omega)
  have hA:=h.nx h1;have hn:=h1.n;unfold Ben.n at hn
  have hd:(B.crashK ks k).1.is k=true:=zeI.2 ⟨by omega,by unfold Ben.n; omega⟩
  have hhd:(idx.map hD)[k]? =some (.h kD (ix idx k) 0):=by have:=hA.hd hd; simpa using this
  obtain ⟨ho,hpl⟩:=hA.ds (by omega) k
  have hcrash:=zH5 (hA.get1 hd) ho hpl;have hpend:=zyF (hA.get1 hd) ho;have hset:=hA.set1 hd;have hnx1:(B.crashK ks (k+1)).1=(B.crashK ks k).1.setD k (((B.crashK ks k).1.dk k).crash ((B.crashK ks k).2.take ((B.crashK ks k).1.dk k).pend.length)):=rfl;have hnx2:(B.crashK ks (k+1)).2=(B.crashK ks k).2.drop ((B.crashK ks k).1.dk k).pend.length:=rfl;rw [hnx1,hnx2];generalize (B.crashK ks k).1=C at*;generalize (B.crashK ks k).2=r at*;generalize hm:(C.dk k).pend.length=m at*
  have hmin0:0≤min (m:Int) (r.length:Int):=by omega
  have hmin1:min (m:Int) (r.length:Int)≤(r.length:Int):=by omega
  have hro:zsN 1 (r.map D.bool)=true:=by simp [zsN,D.cell,D.width]
  have hcut1:cutI 0 (min (m:Int) (r.length:Int)) (r.map D.bool)=(r.take m).map D.bool:=by
   unfold cutI
   rw [show (min (m:Int) (r.length:Int) - 0).toNat=min m r.length by omega,Int.toNat_zero,List.drop_zero,←List.map_take]
   refine congrArg (List.map D.bool) ?_
   by_cases q:m≤r.length
   ·rw [Nat.min_eq_left q]
   ·rw [Nat.min_eq_right (by omega),List.take_of_length_le (by omega),List.take_of_length_le (by omega)]
  have hcut2:cutI (min (m:Int) (r.length:Int)) (r.length:Int) (r.map D.bool)=(r.drop m).map D.bool:=by
   unfold cutI
   rw [←List.map_drop,List.take_of_length_le (by rw [List.length_map,List.length_drop]; omega)]
   refine congrArg (List.map D.bool) ?_
   by_cases q:m≤r.length
   ·rw [show (min (m:Int) (r.length:Int)).toNat=m by omega]
   ·rw [List.drop_of_length_le (by omega),List.drop_of_length_le (by omega)]
  have hk8:(k:Int) < (B.ds.length:Int):=by omega
  have hkk:k < B.ds.length:=hk
  have hwr:IntKind.i64.wrap ((k:Int)+1)=((k+1:Nat):Int):=by rw [zah (by omega) (by omega)]; omega
  have i1:(D.h kD (ix idx k) 0).isAgg=false:=rfl;have i2:(D.h kD (ix idx k) 0).width=1:=rfl;have i3:(D.h kD (ix idx k) 0).cell=true:=rfl
  simp (disch:=first | omega | assumption | (simp; done) | fail) only [zcg,zzp,zaj hrow,zfz,zlM,zbw,zab,Nat.zero_add,Int.toNat_natCast,zaj hhd,hpend,zac,zbu,zaY,zaH,List.length_map,hro,hcut1,hcrash,zcv,zc7,hset,hcut2,hwr,Int.le_refl,i1,i2,i3]
 ·intro again;dsimp only [st]
  have hset1:zaU (P0 T0 b idx B) b 1 [.int .i64 (-1)]=(P0 T0 b idx B).set b [.int .i64 B.w,.int .i64 (-1),.bool B.down,.sl .own (idx.map hD)]:=by
   rw [zc5 hrow]; rfl
  have hg1:=zhq hrow [.int .i64 B.w,.int .i64 (-1),.bool B.down,.sl .own (idx.map hD)]
  have hset2:zaU ((P0 T0 b idx B).set b [.int .i64 B.w,.int .i64 (-1),.bool B.down,.sl .own (idx.map hD)]) b 2 [.bool false]=P0 T0 b idx (B.crash ks):=by
   rw [zc5 hg1,List.set_set]
   have:P0 T0 b idx (B.crash ks)=(P0 T0 b idx B).set b (bRow (B.crash ks) idx):=by unfold P0; rw [List.set_set]
   rw [this];have hw2:(B.crash ks).w=B.w:=(zmJ h.ok ks).2.1;unfold bRow;rw [hw2];rfl
  have hcr1:P1 T1 idx (B.crashK ks B.ds.length).1=P1 T1 idx (B.crash ks):=rfl
  simp (disch:=first | omega | assumption | (simp; done) | fail) [zaj hrow,hset1,zaj hg1,hset2,zfZ,D.flat,hcr1]
end
end Wf

namespace Wf
open Go Go.RowKit Go.Proofs
set_option linter.unusedSimpArgs false
set_option linter.unusedVariables false
set_option maxHeartbeats 4000000
section
variable {T0 T1:Tb} {b:Nat} {idx:List Nat} {B:Ben}
structure Aside (U V:Tb) (b:Nat) (idx:List Nat) (b2:Nat) (idx2:List Nat) (C:Ben):Prop where
 ne:b2≠b
 lt:b2 < U.length
 row:U[b2]? =some (bRow C idx2)
 nd:idx2.Nodup
 len:idx2.length=C.ds.length
 ok:C.Ok
 g:C.g=[]
 dis:∀ i∈idx2,i ∉ idx
 cells:∀ (j i:Nat) (c:List D),idx2[j]? =some i→(C.ds.map DS.cells)[j]? =some c→V[i]? =some c
theorem Aside.vlt {U V:Tb} {b:Nat} {idx:List Nat} {b2:Nat} {idx2:List Nat} {C:Ben} (h:Aside U V b idx b2 idx2 C):∀ i∈idx2,i < V.length:=fun i hi=>by
 obtain ⟨j,hj,rfl⟩:=List.mem_iff_getElem.1 hi
 have h2:=h.cells j idx2[j] ((C.ds.map DS.cells)[j]'(by rw [List.length_map,←h.len]; exact hj)) (List.getElem?_eq_getElem hj) (List.getElem?_eq_getElem _)
 exact (List.getElem?_eq_some_iff.1 h2).1
theorem Aside.at' {U V:Tb} {b:Nat} {idx:List Nat} {b2:Nat} {idx2:List Nat} {C:Ben} (h:Aside U V b idx b2 idx2 C) (B1:Ben):At (P0 U b idx B1) (P1 V idx B1) b2 idx2 C:=by
 have e0:∀ X:Tb,(P0 X b idx B1).length=X.length:=fun X=>zI0
 have e1:∀ X:Tb,(P1 X idx B1).length=X.length+B1.g.length:=fun X=>zIZ
 exact ⟨by rw [e0]; exact h.lt,h.nd,fun i hi=>by rw [e1]; have:=h.vlt i hi; omega,h.len,h.ok⟩
theorem Aside.p0 {U V:Tb} {b:Nat} {idx:List Nat} {b2:Nat} {idx2:List Nat} {C:Ben} (h:Aside U V b idx b2 idx2 C) (B1:Ben):P0 (P0 U b idx B1) b2 idx2 C=P0 U b idx B1:=by
 refine zDD ?_;unfold P0
 rw [List.getElem?_set,if_neg (fun q=>h.ne q.symm)]
 exact h.row
theorem Aside.get {U V:Tb} {b:Nat} {idx:List Nat} {b2:Nat} {idx2:List Nat} {C:Ben} (h:Aside U V b idx b2 idx2 C) (B1:Ben) {i:Nat} (hi:i∈idx2):(P1 V idx B1)[i]? =V[i]? :=by
 unfold P1
 rw [List.getElem?_append_left (by rw [zpk]; exact h.vlt i hi),zvm _ _ _ (h.dis i hi)]
theorem Aside.p1 {U V:Tb} {b:Nat} {idx:List Nat} {b2:Nat} {idx2:List Nat} {C:Ben} (h:Aside U V b idx b2 idx2 C) (B1:Ben):P1 (P1 V idx B1) idx2 C=P1 V idx B1:=by
 show putL _ _ (C.ds.map DS.cells)++C.g=_;rw [h.g,List.append_nil]
 refine ztg fun j i c h1 h2=>?_
 rw [h.get B1 (List.mem_of_getElem? h1)];exact h.cells j i c h1 h2
end
section
variable {U V:Tb} {b:Nat} {idx:List Nat} {B:Ben} {n:Nat} {K:Int}
theorem Aside.read {b2:Nat} {idx2:List Nat} {C:Ben} (h:Aside U V b idx b2 idx2 C) (hw:C.w≤1000000) (B1:Ben) (d a:Int):
  zaO [.h kB b2 0,.int .i64 d,.int .i64 a] [P0 U b idx B1,P1 V idx B1]=some (Ans.mk (.tup [.sl .own (uL (C.read d a).1),.int .i64 (C.read d a).2]) [] []):=by
 have:=zA4 (h.at' B1) hw d a;rw [h.p0,h.p1] at this;exact this
end
end Wf

namespace Wf
open Go Go.RowKit Go.Proofs
set_option linter.unusedSimpArgs false
set_option linter.unusedVariables false
set_option maxHeartbeats 4000000
section
variable {T0 T1:Tb}
end
end Wf

namespace Wf
open Go Go.RowKit Go.Proofs
set_option linter.unusedSimpArgs false
set_option linter.unusedVariables false
set_option maxHeartbeats 4000000
theorem zF6 {B:Ben} {live:List Bool} {g:Geo} {d:Int} (hg:0≤g.d) (h:∀ e:Int,0≤e→e < g.d→e≠d→B.up live e=true):B.lostN live g≤1:=by
 unfold Ben.lostN
 refine zEj (a:=d.toNat) fun i hi hp=>?_
 by_cases he:(i:Int)=d
 ·omega
 ·rw [h i (by omega) (by omega) he] at hp; cases hp
section
variable {U V:Tb} {b:Nat} {idx:List Nat} {B:Ben} {n:Nat} {K:Int}
end
end Wf

namespace Wf
open Go Go.RowKit Go.Proofs
set_option linter.unusedSimpArgs false
set_option linter.unusedVariables false
set_option maxHeartbeats 4000000
section
variable {U V:Tb} {b:Nat} {idx:List Nat} {B:Ben} {n:Nat} {K:Int}
theorem Run.pend (h:Run U V b idx B n K) (hK:K≤900000) (hn:∀ e:Int,0≤e→B.nP e=0):zev [.h kB b 0] [P0 U b idx B,P1 V idx B]=some (Ans.mk (.int .i64 0) [] []):=by
 have:=zDW h.at' (by have:=h.w; omega)
 rw [zyR fun j _=>hn j (by omega)] at this
 exact this
end
end Wf

namespace Wf
open Go Go.RowKit Go.Proofs
set_option linter.unusedSimpArgs false
set_option linter.unusedVariables false
set_option maxHeartbeats 4000000
section
variable {U V:Tb} {b:Nat} {idx:List Nat} {B:Ben} {n:Nat} {K:Int}
theorem zF7 (h:Still B) (e:Int):B.nP e=0:=by unfold Ben.nP; rw [(h.dk e).2]; rfl
end
end Wf

namespace Wf
open Go Go.RowKit Go.Proofs
set_option linter.unusedSimpArgs false
set_option linter.unusedVariables false
set_option maxHeartbeats 4000000
theorem zEu (l:List Bool):D.nohL (l.map D.bool)=true:=by
 induction l with
 | nil=>rfl
 | cons x l ih=>simp [D.nohL,D.noh,ih]
section
variable {B:Ben}
theorem zJo {a:Act} (h:a.Ok B):a.sec:=by
 cases a with
 | w d a x=>exact h.2.2.2.2
 | f d=>trivial
theorem zF8 {as':List Act} (hB:B.Ok) (hd:B.down=false) (hA:∀ a∈as',a.Ok B):∃ pre post,as'=pre++post∧Does B pre∧(∀ e,(runA as' B).2.dk e=(does B pre).dk e)∧Nx (nW as') B (runA as' B).2∧Like B (runA as' B).2∧
  (((runA as' B).1=0∧(runA as' B).2.down=false∧post=[]∧runA as' B=(0,does B as'))∨((runA as' B).1=6∧(runA as' B).2.down=true)):=by
 obtain ⟨hx,hL⟩:=zt4 as' hB fun a ha=>zJo (hA a ha)
 by_cases hl:B.left < 0∨(nW as':Int)≤B.left
 ·have hD:=ziA as' hB hd hA hl
  exact ⟨as',[],by simp,hD,fun e=>by rw [hD.run],hx,hL,.inl ⟨by rw [hD.run],by rw [hD.run]; exact hD.down.trans hd,rfl,hD.run⟩⟩
 ·obtain ⟨pre,d,a,x,post,e1,e2,e3,e4,e5⟩:=zDG as' hB hd hA (by omega) (by omega)
  exact ⟨pre,.w d a x::post,e1,e3,fun e=>by rw [e5]; rfl,hx,hL,.inr ⟨by rw [e5],by rw [e5]; rfl⟩⟩
theorem zCc {a:Act} (h:a.Ok B) {e:Int} (e0:0≤e):∀ w∈((B.does1 a).dk e).pend,w∈(B.dk e).pend∨a=.w e w.1 w.2:=by
 cases a with
 | w d a x=>
  intro w hw;have hw:w∈(((B.junk ((B.dk d).write a x).2).less.setD d ((B.dk d).add a x)).dk e).pend:=hw
  rw [zge (by simpa using h.1) e0] at hw
  by_cases he:e=d
  ·subst he;rw [if_pos rfl] at hw;rcases List.mem_append.1 hw with hw | hw
   ·exact .inl hw
   ·rw [List.mem_singleton.1 hw]; exact .inr rfl
  ·rw [if_neg he] at hw; exact .inl hw
 | f d=>
  intro w hw;have hw:w∈((B.setD d (B.dk d).flushed).dk e).pend:=hw;rw [zge h.1 e0] at hw
  by_cases he:e=d
  ·subst he; rw [if_pos rfl] at hw; cases hw
  ·rw [if_neg he] at hw; exact .inl hw
theorem zyY {e:Int} (e0:0≤e):∀ (l:List Act) {B:Ben},B.Ok→(∀ a∈l,a.Ok B)→∀ w∈((does B l).dk e).pend,w∈(B.dk e).pend∨Act.w e w.1 w.2∈l
 | [],B,_,_,w,hw=>.inl hw
 | a::l,B,hB,h1,w,hw=>by
  have ha:=h1 a (List.mem_cons_self ..)
  rcases zyY e0 l (ziz hB ha).ok (fun c hc=>zmX hB ha (h1 c (List.mem_cons_of_mem _ hc))) w hw with hw | hw
  ·rcases zCc ha e0 w hw with hw | hw
   ·exact .inl hw
   ·exact .inr (by rw [←hw]; exact List.mem_cons_self ..)
  ·exact .inr (List.mem_cons_of_mem _ hw)
theorem zt9:∀ (p:List (Int×List Int)) (a:Int) (b:List Int),(∀ w∈p,w.1≠a)→look p a b=b
 | [],a,b,_=>rfl
 | w::p,a,b,h=>by
  show look p a (if w.1=a then w.2 else b)=b
  rw [if_neg (h w (List.mem_cons_self ..))]
  exact zt9 p a b fun v hv=>h v (List.mem_cons_of_mem _ hv)
theorem zF9 {s:DS} (h:s.Ok) (l:List Bool) {a:Int} (a0:0≤a) (a1:a < 52):(s.crash l).sec a=look (kept s.pend l) a (s.base a.toNat):=by
 have:=zte h (a:=a.toNat) (by omega) (kept s.pend l) fun w hw=>h.pend w (ziy _ _ w hw)
 unfold DS.sec;show look [] a ((s.puts (kept s.pend l)).base a.toNat)=_
 rw [zpi,this,show ((a.toNat:Nat):Int)=a by omega]
theorem zCd (hB:B.Ok) (ks:List Bool) {e a:Int} (he:B.is e=true) (a0:0≤a) (a1:a < 52) (h:∀ w∈(B.dk e).pend,w.1≠a):(B.crash ks).cur e a=B.cur e a:=by
 obtain ⟨l,hl⟩:=(zmJ hB ks).2.2.2.2 e he;unfold Ben.cur
 rw [hl,zF9 (zkc hB e).1 l a0 a1,zt9 _ _ _ fun w hw=>h w (ziy _ _ w hw)]
 unfold DS.sec;rw [zt9 _ _ _ h]
theorem zCe (hB:B.Ok) (ks:List Bool) (e:Int):(B.crash ks).failed e=B.failed e:=by
 obtain ⟨h1,h2,h3,h4,h5⟩:=zmJ hB ks
 have hi:(B.crash ks).is e=B.is e:=by unfold Ben.is; rw [h1.n]
 cases he:B.is e
 ·unfold Ben.failed; rw [hi,he]; rfl
 ·obtain ⟨l,hl⟩:=h5 e he;rw [zgF (hi.trans he),zgF he,hl,zyX (zkc hB e).1]
theorem zGa (hB:B.Ok) {n:Int} (hn:n≤1000000000):(B.limit n).Ok:=⟨hB.w0,by show max (-1) n≤1000000000; omega,hB.small,hB.ds⟩
end
section
variable {T0 T1:Tb} {b:Nat} {idx:List Nat} {B:Ben}
theorem zJp (h:At T0 T1 b idx B):zbi [.h kB b 0] [P0 T0 b idx B]=some (Ans.mk (.bool B.down) [] []):=by
 rw [zkG];unfold zeY;simp [zaj h.get0,bRow]
theorem At.limit (h:At T0 T1 b idx B) {n:Int} (hn:n≤1000000000):At T0 T1 b idx (B.limit n):=⟨h.b,h.nd,h.lt,h.len,zGa h.ok hn⟩
theorem At.crash (h:At T0 T1 b idx B) (ks:List Bool):At T0 T1 b idx (B.crash ks):=h.nx (zmJ h.ok ks).1
end
end Wf

namespace Wf
open Go Go.RowKit Go.Proofs
set_option linter.unusedSimpArgs false
set_option linter.unusedVariables false
set_option maxHeartbeats 4000000
@[simp] theorem zuG {R:Type} (a b c:D) (f:LfT [.any,.any,.any]→Option R):zaw [.any,.any,.any] [a,b,c] f=f (a,b,c,()):=by rw [zda,zda,zda,zem]
section
variable {B:Ben} {live:List Bool}
def zjX (g:Geo) (dat:Nat→List (List Int)) (n:Int):List Int:=if g.cap≤n then zen else (dat (rowG g n).toNat).getD (zds g n).toNat []
theorem zBh {g:Geo} {dat:Nat→List (List Int)} (hR:∀ r:Nat,r < 16→Row g (dat r)) {n:Int} (n0:0≤n):Sec (zjX g dat n):=by
 unfold zjX;split
 ·exact zyb
 ·rename_i h
  obtain ⟨hf,c0,c1,_⟩:=zt3 n0 (show n < g.cap by omega)
  obtain ⟨hk,r0,r1⟩:=zbH.1 hf
  have hr:=hR (rowG g n).toNat (by omega)
  exact hr.sec _ (zc9 (by have:=hr.len; omega))
end
end Wf

namespace Wf
open Go Go.RowKit Go.Proofs
set_option linter.unusedSimpArgs false
set_option linter.unusedVariables false
set_option maxHeartbeats 4000000
def OldR (B:Ben) (live:List Bool) (a:Geo) (dat:Nat→List (List Int)) (lo:Int):Prop:=
 ∀ r:Nat,r < 16→lo≤r→∀ e:Int,0≤e→e < a.d→B.up live e=true→B.cur e (36+r)=atR a r (dat r) e
def newW (a to:Geo) (dat:Nat→List (List Int)) (r:Int):List (List Int):=(List.range to.width.toNat).map fun (j:Nat)=>zjX a dat (numP to r j)
def NewR (B:Ben) (live:List Bool) (a to:Geo) (dat:Nat→List (List Int)) (lo:Int):Prop:=
 ∀ r:Nat,(r:Int) < lo→∀ e:Int,0≤e→e < to.d→B.up live e=true→B.cur e (36+r)=atR to r (newW a to dat r) e
def winL (a to:Geo) (dat:Nat→List (List Int)) (k:Int):List (List Int):=(List.range ((zbF a to k).2 - (zbF a to k).1).toNat).map fun (j:Nat)=>zjX a dat ((zbF a to k).1+j)
section
variable {B B1:Ben} {live:List Bool} {a to:Geo} {dat:Nat→List (List Int)} {k:Int}
theorem OldR.mono {lo hi:Int} (h:OldR B live a dat lo) (hl:lo≤hi):OldR B live a dat hi:=fun r r1 r2=>h r r1 (by omega)
theorem OldR.read {lo:Int} (h:OldR B live a dat lo) (k0:0≤k) (k1:k < winP a to) (hlo:lo≤k*zaT a to) (hR:∀ r:Nat,r < 16→Row a (dat r)) (hdn:B.down=false) (hlost:(B.lostN live a:Int)≤a.l - 4):
  B.wRead live a to k=(winL a to dat k,0):=by
 have hW:=zkY k0 k1;have hs0:=hW.s0
 refine zyV k0 k1 (zjX a dat) fun n n0 n1=>?_
 unfold Ben.wOne zjX
 by_cases hc:a.cap≤n
 ·rw [if_pos hc,if_pos hc]
 ·rw [if_neg hc,if_neg hc]
  have hlt:n < a.cap:=by omega
  obtain ⟨hf,c0,c1,_⟩:=zt3 (show 0≤n by omega) hlt
  obtain ⟨hk,r0,r1⟩:=zbH.1 hf;have ho:=zHZ hW n0 hlt
  have e:(((rowG a n).toNat:Nat):Int)=rowG a n:=by omega
  rw [zHA (by omega) hlt (hR (rowG a n).toNat (by omega)) hdn fun d d0 d1 hu=>by
   have:=h (rowG a n).toNat (by omega) (by omega) d d0 d1 hu
   rw [e] at this; exact this]
  rw [if_pos (.inr hlost)]
theorem zGb (h:0≤(zbF a to k).2 - (zbF a to k).1):((winL a to dat k).length:Int)=(zbF a to k).2 - (zbF a to k).1:=by
 unfold winL; rw [List.length_map,List.length_range]; omega
theorem zBi {j:Nat} (h:(j:Int) < (zbF a to k).2 - (zbF a to k).1):(winL a to dat k)[j]? =some (zjX a dat ((zbF a to k).1+j)):=by
 unfold winL
 rw [List.getElem?_map,List.getElem?_range (by omega)]; rfl
theorem zEv (k0:0≤k) (k1:k < winP a to) (hR:∀ r:Nat,r < 16→Row a (dat r)):WinD a to k (winL a to dat k):=by
 have hW:=zkY k0 k1;have hs0:=hW.s0;have hss:=hW.ss;have hm:=hW.m
 refine ⟨k0,k1,zGb (by omega),fun x hx=>?_⟩
 obtain ⟨j,hj,rfl⟩:=List.mem_map.1 hx
 exact zBh hR (by omega)
theorem zGc {r:Int} (k0:0≤k) (k1:k < winP a to) (r0:k*zaT a to≤r) (r1:r < (k+1)*zaT a to):rowW a to k (winL a to dat k) r=newW a to dat r:=by
 have hW:=zkY k0 k1;have hyw:=zbZ hW.yok;unfold rowW newW
 refine List.map_congr_left fun j hj=>?_
 have hj:=List.mem_range.1 hj
 obtain ⟨n0,n1⟩:=zse hW r0 r1 (j:=(j:Int)) (by omega) (by omega)
 rw [List.getD_eq_getElem?_getD,zBi (by omega)]
 show zjX a dat _=_;congr 1;omega
theorem zJ1 (k0:0≤k) (k1:k < winP a to) (hup:∀ e:Int,0≤e→B1.up live e=B.up live e)
  (hc:∀ e x:Int,0≤e→0≤x→x < 52→B1.cur e x=if k*zaT a to≤x - 36∧x - 36 < (k+1)*zaT a to∧e < to.d∧B.up live e=true then atR to (x - 36) (rowW a to k (winL a to dat k) (x - 36)) e else B.cur e x)
  {lo:Int} (hlo:lo≤(k+1)*zaT a to) (ho:OldR B live a dat lo):OldR B1 live a dat ((k+1)*zaT a to)∧(NewR B live a to dat (k*zaT a to)→NewR B1 live a to dat ((k+1)*zaT a to)):=by
 have hW:=zkY k0 k1;have hr1:=hW.r1
 refine ⟨fun r r1 r2 e e0 e1 hu=>?_,fun hn r r2 e e0 e1 hu=>?_⟩
 ·rw [hup e e0] at hu
  rw [hc e _ e0 (by omega) (by omega),if_neg (by omega)]
  exact ho r r1 (by omega) e e0 e1 hu
 ·rw [hup e e0] at hu
  rw [hc e _ e0 (by omega) (by omega),show (36+(r:Int)) - 36=r by omega]
  by_cases hr:k*zaT a to≤(r:Int)
  ·rw [if_pos ⟨hr,r2,e1,hu⟩,zGc k0 k1 hr r2]
  ·rw [if_neg (fun q=>hr q.1)]
   exact hn r (by omega) e e0 e1 hu
end
end Wf

namespace Wf
open Go Go.RowKit Go.Proofs
set_option linter.unusedSimpArgs false
set_option linter.unusedVariables false
set_option maxHeartbeats 4000000
structure MvS (U V:Tb) (b:Nat) (idx:List Nat) (n:Nat) (live:List Bool) (a:Geo) (dat:Nat→List (List Int)) (lo:Int) (K:Int) (C:Ben):Prop where
 run:Run U V b idx C n K
 old:OldR C live a dat lo
 lost:(C.lostN live a:Int)≤a.l - 4
def Ben.mv1 (C:Ben) (live:List Bool) (a to:Geo) (dat:Nat→List (List Int)) (k:Int):Ben:=does C (C.wwActs live a to k (winL a to dat k))
section
variable {U V:Tb} {b:Nat} {idx:List Nat} {n:Nat} {live:List Bool} {a to:Geo} {dat:Nat→List (List Int)} {lo K k:Int} {C:Ben}
theorem MvS.read (h:MvS U V b idx n live a dat lo K C) (hK:K≤800000) (tg:Tag) (k0:0≤k) (k1:k < winP a to) (hlo:lo≤k*zaT a to) (hR:∀ r:Nat,r < 16→Row a (dat r)):
  za6 [.h kB b 0,.sl tg (live.map D.bool),.agg [.int .i64 a.l,.int .i64 a.d,.int .i64 a.c],.agg [.int .i64 to.l,.int .i64 to.d,.int .i64 to.c],.int .i64 k] [P0 U b idx C,P1 V idx C]=
   some (Ans.mk (.tup [.sl .own (pL (fP (winL a to dat k))),.int .i64 0]) [] []):=by
 have:=zt6 h.run.at' (by have:=h.run.w; omega) tg live a to k
 rw [h.old.read k0 k1 hlo hR h.run.down h.lost] at this;exact this
theorem MvS.write (h:MvS U V b idx n live a dat lo K C) (hK:K≤800000) (tg tg2:Tag) (k0:0≤k) (k1:k < winP a to) (hlo:lo≤(k+1)*zaT a to) (hR:∀ r:Nat,r < 16→Row a (dat r)):
  zbt [.h kB b 0,.sl tg (live.map D.bool),.agg [.int .i64 a.l,.int .i64 a.d,.int .i64 a.c],.agg [.int .i64 to.l,.int .i64 to.d,.int .i64 to.c],.int .i64 k,.sl tg2 (pL (fP (winL a to dat k)))] [P0 U b idx C,P1 V idx C]=
   some (Ans.mk (.int .i64 0) [] [P0 U b idx (C.mv1 live a to dat k),P1 V idx (C.mv1 live a to dat k)])∧
  MvS U V b idx n live a dat ((k+1)*zaT a to) (K+32) (C.mv1 live a to dat k)∧(∀ e,(C.mv1 live a to dat k).failed e=C.failed e)∧
  (NewR C live a to dat (k*zaT a to)→NewR (C.mv1 live a to dat k) live a to dat ((k+1)*zaT a to))∧
  (∀ e:Int,0≤e→(C.mv1 live a to dat k).nP e=if C.up live e=true then 0 else C.nP e):=by
 obtain ⟨B1,e1,r1,f1,d1,c1,p1⟩:=h.run.win hK tg live tg2 (zEv k0 k1 hR);have hB:B1=C.mv1 live a to dat k:=d1;rw [←hB];have hL:Like C B1:=⟨r1.num.trans h.run.num.symm,f1⟩
 obtain ⟨m1,m2⟩:=zJ1 k0 k1 (fun e _=>hL.up live e) c1 hlo h.old
 exact ⟨e1,⟨r1,m1,by rw [hL.lostN]; exact h.lost⟩,f1,m2,p1⟩
def Ben.mv (C:Ben) (live:List Bool) (a to:Geo) (dat:Nat→List (List Int)) (k:Int):Nat→Ben
 | 0=>C
 | j+1=>(C.mv live a to dat k j).mv1 live a to dat (k+j)
theorem MvS.mv (h:MvS U V b idx n live a dat (k*zaT a to) K C) (hK:K≤400000) (k0:0≤k) (hR:∀ r:Nat,r < 16→Row a (dat r)):∀ j:Nat,k+j≤winP a to→j≤100→
  MvS U V b idx n live a dat ((k+j)*zaT a to) (K+32*j) (C.mv live a to dat k j)∧(∀ e,(C.mv live a to dat k j).failed e=C.failed e)∧
  (NewR C live a to dat (k*zaT a to)→NewR (C.mv live a to dat k j) live a to dat ((k+j)*zaT a to))∧
  ((∀ e:Int,0≤e→C.nP e=0)→∀ e:Int,0≤e→(C.mv live a to dat k j).nP e=0)
 | 0,_,_=>by
  rw [show k+((0:Nat):Int)=k by omega]
  exact ⟨⟨h.run.mono (by omega),h.old,h.lost⟩,fun _=>rfl,fun q=>q,fun q=>q⟩
 | j+1,hj,hj2=>by
  obtain ⟨i1,i2,i3,i4⟩:=MvS.mv h hK k0 hR j (by omega) (by omega)
  have hp:=(zkY (x:=a) (y:=to) (k:=k+j) (by omega) (by omega)).rr
  have hp2:=(zkY (x:=a) (y:=to) (k:=k+j) (by omega) (by omega)).r
  obtain ⟨_,w1,w2,w3,w4⟩:=i1.write (k:=k+j) (to:=to) (by omega) .lent .lent (by omega) (by omega) (by omega) hR
  rw [show k+((j+1:Nat):Int)=k+j+1 by omega,show K+32*((j+1:Nat):Int)=K+32*j+32 by omega]
  refine ⟨w1,fun e=>(w2 e).trans (i2 e),fun q=>w3 (i3 q),fun q e e0=>?_⟩
  show ((C.mv live a to dat k j).mv1 live a to dat (k+j)).nP e=0;rw [w4 e e0,i4 q e e0];split<;>rfl
end
end Wf

namespace Wf
open Go Go.RowKit Go.Proofs
set_option linter.unusedSimpArgs false
set_option linter.unusedVariables false
section
variable {g:Geo} {dat:Nat→List (List Int)}
end
end Wf

namespace Wf
open Go Go.RowKit Go.Proofs
open PUnit (unit)
set_option linter.unusedVariables false
set_option maxRecDepth 100000
def zey:Ann:={ loops:=[(1,dd 2 (.val (.cell .lent)::.val (.cell (.int .i64))::.val (.cell (.int .i64))::.val (.cell .lent)::dd 7 [.box true [(.int .i64),(.int .i64),(.int .i64)],.box true [(.int .i64),(.int .i64),(.int .i64)],.ptr 2496,.own 1,.val (.cell (.int .i64))])),(7,dd 2 (.val (.cell .lent)::dd 10 (.box true [(.int .i64),(.int .i64),(.int .i64)]::.box true [(.int .i64),(.int .i64),(.int .i64)]::.ptr 2496::.own 1::dd 6 [.val (.cell (.int .i64))]))),(10,dd 2 (.val (.cell .lent)::dd 10 (.box true [(.int .i64),(.int .i64),(.int .i64)]::.box true [(.int .i64),(.int .i64),(.int .i64)]::.ptr 2496::.own 1::dd 6 (.val (.cell (.int .i64))::.own 1::.dead::.val (.cell (.int .i64))::dd 141 [.val (.cell (.int .i64)),.val (.cell (.int .i64))])))),(12,dd 2 (.val (.cell .lent)::dd 10 (.box true [(.int .i64),(.int .i64),(.int .i64)]::.box true [(.int .i64),(.int .i64),(.int .i64)]::.ptr 2496::.own 1::dd 6 (.val (.cell (.int .i64))::.own 1::.dead::.val (.cell (.int .i64))::.dead::.val (.cell (.int .i64))::.val (.cell .sl)::dd 138 [.val (.cell (.int .i64)),.val (.cell (.int .i64))])))),(13,dd 2 (.val (.cell .lent)::dd 10 (.box true [(.int .i64),(.int .i64),(.int .i64)]::.box true [(.int .i64),(.int .i64),(.int .i64)]::.ptr 2496::.own 1::dd 6 (.val (.cell (.int .i64))::.own 1::.dead::.val (.cell (.int .i64))::.dead::.val (.cell (.int .i64))::.val (.cell .sl)::.dead::.val (.cell (.int .i64))::dd 136 (.val (.cell (.int .i64))::.val (.cell (.int .i64))::dd 15 [.own 1,.val (.cell (.int .i64)),.val (.cell (.int .i64))]))))),(15,dd 2 (.val (.cell .lent)::dd 10 (.box true [(.int .i64),(.int .i64),(.int .i64)]::.box true [(.int .i64),(.int .i64),(.int .i64)]::.ptr 2496::.own 1::dd 6 (.val (.cell (.int .i64))::.own 1::.dead::.val (.cell (.int .i64))::.dead::.val (.cell (.int .i64))::.val (.cell .sl)::.dead::.val (.cell (.int .i64))::dd 136 (.val (.cell (.int .i64))::.val (.cell (.int .i64))::dd 15 [.own 1,.val (.cell (.int .i64)),.val (.cell (.int .i64))])))))],ks:=[(2496,true),(8225,true)] }
noncomputable def zdG:Zp:=denT Tryz.prog (zav [(ID.wattleplay_Pair,(.pure [0,0] zbR)),(ID.wattlelaw14_Filled,(.st [] [0] [(2496,true),(8225,true)] zbh)),(ID.wattleplay_Live,(.pure [1] zbT)),(ID.wattleref01_Windows,(.pure [0] zaz)),(ID.wattlekeep_Within,(.pure [0] zad)),(ID.window_Read,(.st [] [1,0] [(2496,false),(8225,false)] za6)),(ID.window_Write,(.st [] [0] [(2496,true),(8225,true)] zbt)),(ID.bench_counter_Limit,(.st [] [] [(2496,true)] zbk)),(ID.bench_counter_Down,(.st [] [0] [(2496,false)] zbi)),(ID.bench_Bench_Crash,(.st [] [] [(2496,true),(8225,true)] zbo)),(ID.wattleref01_Span,(.pure [0,0] zbm)),(ID.wattleref01_Of,(.pure [0,0,0] zbY)),(ID.wattleref01_Numbers,(.pure [1] za2)),(ID.wattlelaw14_Data,(.pure [1] zby)),(ID.wattlekeep_Same_byte,(.pure [0] zaA)),(ID.wattlelaw20_wakes,(.pure [0] zbp))]) zey [0] ID.wattlelaw20_WindowCrash
theorem sound_wattlelaw20_WindowCrash:za3 Tryz.prog ID.wattlelaw20_WindowCrash (.pure [0] zdG):=zvh (zax [zna,zkq,znl,zfo,zdn,zkU,zqV,zjM,zkF,zln,zmy,zoH,zjP,zmB,ze2,zlt]) zbs ⟨Tryz.f8,by kernel_rfl,by kernel_rfl,by kernel_rfl⟩
noncomputable def zdH (zbR:Zp) (zbh:Zs) (zbT zaz zad:Zp) (za6 zbt zbk zbi zbo:Zs) (zbm zbY za2 zby zaA zbp:Zp) (a0 a1:Int) (a2:List D) (a3 a4:Int) (a5:List D):Option D:=
 zam (zbR [.int .i64 a0,.int .i64 a1]) fun r1=>
 zdi r1 fun ts2=>
 zaw ([Lf.any,Lf.any]) ts2 fun c3=>
 asAgg c3.1 fun cs4=>
 zaw ([Lf.int .i64,Lf.int .i64,Lf.int .i64]) cs4 fun c5=>
 asAgg c3.2.1 fun cs6=>
 zaw ([Lf.int .i64,Lf.int .i64,Lf.int .i64]) cs6 fun c7=>
 zam (zbh [.agg [.int .i64 c5.1,.int .i64 c5.2.1,.int .i64 c5.2.2.1],.int .i64 c7.2.1,.sl .lent a2] [[],[]]) fun r8=>
 nilK r8.outs <|
 zdd r8.tbs fun c9 q10=>
 zdd q10 fun c11 q12=>
 nilK q12 <|
 sif (zhO r8.r=true) <|
 zp9 r8.r fun b13=>
 brK b13
  (some (.bool false))
  (zam (zbT [.int .i64 0,.int .i64 c7.2.1]) fun r14=>
  za7 r14 fun l15=>
  zam (zaz [.agg [.int .i64 c5.1,.int .i64 c5.2.1,.int .i64 c5.2.2.1],.agg [.int .i64 c7.1,.int .i64 c7.2.1,.int .i64 c7.2.2.1]]) fun r16=>
  asI .i64 r16 fun i17=>
  zam (zad [.int .i64 a3,.int .i64 i17]) fun r18=>
  asI .i64 r18 fun i19=>
  sif (l15.length=l15.length) <|
  zca (α:=(List D×Int×Int×List D×(Int×Int×Int×PUnit)×(Int×Int×Int×PUnit)×D×List D×Int×PUnit)×List (List D)×List (List D)×PUnit) (fun again20 ((l21,(i22,(i23,(l24,((i25,(i26,(i27,_))),((i28,(i29,(i30,_))),(x31,(l32,(i33,_))))))))),(U34,(U35,_)))=>
   brK (decide (i33 < i22))
    (sif (0+l32.length≤l32.length) <|
    zam (za6 [x31,.sl .lent (cut 0 l32.length l32),.agg [.int .i64 i25,.int .i64 i26,.int .i64 i27],.agg [.int .i64 i28,.int .i64 i29,.int .i64 i30],.int .i64 i33] [U34,U35]) fun r36=>
    nilK r36.outs <|
    nilK r36.tbs <|
    zdi r36.r fun ts37=>
    zaw ([Lf.any,Lf.any]) ts37 fun c38=>
    za7 c38.1 fun l39=>
    asI .i64 c38.2.1 fun i40=>
    brK (i40 != 0)
     (some (.bool false))
     (sif (0+l32.length≤l32.length) <|
     sif (0+l39.length≤l39.length) <|
     zam (zbt [x31,.sl .lent (cut 0 l32.length l32),.agg [.int .i64 i25,.int .i64 i26,.int .i64 i27],.agg [.int .i64 i28,.int .i64 i29,.int .i64 i30],.int .i64 i33,.sl .lent (cut 0 l39.length l39)] [U34,U35]) fun r41=>
     nilK r41.outs <|
     zdd r41.tbs fun c42 q43=>
     zdd q43 fun c44 q45=>
     nilK q45 <|
     asI .i64 r41.r fun i46=>
     brK (i46 != 0)
      (some (.bool false))
      (letN (IntKind.i64.wrap (i33+1)) fun n47=>
      sif (l32.length=l32.length) <|
      again20 (((l21,i22,i23,l24,(i25,i26,i27,unit),(i28,i29,i30,unit),x31,l32,n47,unit),c42,c44,unit)))))
    (sif (0+l32.length≤l32.length) <|
    zam (za6 [x31,.sl .lent (cut 0 l32.length l32),.agg [.int .i64 i25,.int .i64 i26,.int .i64 i27],.agg [.int .i64 i28,.int .i64 i29,.int .i64 i30],.int .i64 i22] [U34,U35]) fun r48=>
    nilK r48.outs <|
    nilK r48.tbs <|
    zdi r48.r fun ts49=>
    zaw ([Lf.any,Lf.any]) ts49 fun c50=>
    za7 c50.1 fun l51=>
    asI .i64 c50.2.1 fun i52=>
    brK (i52 != 0)
     (some (.bool false))
     (asH ((2496:Nat)) x31 fun h53=>
     zam (zad [.int .i64 i23,.int .i64 40]) fun r54=>
     asI .i64 r54 fun i55=>
     zam (zbk [.h 2496 h53 0,.int .i64 i55] [U34]) fun r56=>
     nilK r56.outs <|
     zdd r56.tbs fun c57 q58=>
     nilK q58 <|
     zdi r56.r fun ts59=>
     nilK ts59 <|
     sif (0+l32.length≤l32.length) <|
     sif (0+l51.length≤l51.length) <|
     zam (zbt [x31,.sl .lent (cut 0 l32.length l32),.agg [.int .i64 i25,.int .i64 i26,.int .i64 i27],.agg [.int .i64 i28,.int .i64 i29,.int .i64 i30],.int .i64 i22,.sl .lent (cut 0 l51.length l51)] [c57,U35]) fun r60=>
     nilK r60.outs <|
     zdd r60.tbs fun c61 q62=>
     zdd q62 fun c63 q64=>
     nilK q64 <|
     asI .i64 r60.r fun i65=>
     brK (i65 != 0)
      (brK (i65 != 6)
       (some (.bool false))
       (asH ((2496:Nat)) x31 fun h66=>
       zam (zbi [.h 2496 h66 0] [c61]) fun r67=>
       nilK r67.outs <|
       nilK r67.tbs <|
       asB r67.r fun b68=>
       brK ((i65 == 6) != b68)
        (some (.bool false))
        (zam (zbo [x31,.sl .lent l24] [c61,c63]) fun r69=>
        nilK r69.outs <|
        zdd r69.tbs fun c70 q71=>
        zdd q71 fun c72 q73=>
        nilK q73 <|
        zdi r69.r fun ts74=>
        nilK ts74 <|
        sif (0+l32.length≤l32.length) <|
        sif (0+l51.length≤l51.length) <|
        zam (zbt [x31,.sl .lent (cut 0 l32.length l32),.agg [.int .i64 i25,.int .i64 i26,.int .i64 i27],.agg [.int .i64 i28,.int .i64 i29,.int .i64 i30],.int .i64 i22,.sl .lent (cut 0 l51.length l51)] [c70,c72]) fun r75=>
        nilK r75.outs <|
        zdd r75.tbs fun c76 q77=>
        zdd q77 fun c78 q79=>
        nilK q79 <|
        asI .i64 r75.r fun i80=>
        brK (i80 != 0)
         (some (.bool false))
         (letN (IntKind.i64.wrap (i22+1)) fun n81=>
         sif (l32.length=l32.length) <|
         zca (α:=(List D×(Int×Int×Int×PUnit)×(Int×Int×Int×PUnit)×D×List D×Int×PUnit)×List (List D)×List (List D)×PUnit) (fun again82 ((l83,((i84,(i85,(i86,_))),((i87,(i88,(i89,_))),(x90,(l91,(i92,_)))))),(U93,(U94,_)))=>
          zam (zaz [.agg [.int .i64 i84,.int .i64 i85,.int .i64 i86],.agg [.int .i64 i87,.int .i64 i88,.int .i64 i89]]) fun r95=>
          asI .i64 r95 fun i96=>
          brK (decide (i92 < i96))
           (sif (0+l91.length≤l91.length) <|
           zam (za6 [x90,.sl .lent (cut 0 l91.length l91),.agg [.int .i64 i84,.int .i64 i85,.int .i64 i86],.agg [.int .i64 i87,.int .i64 i88,.int .i64 i89],.int .i64 i92] [U93,U94]) fun r97=>
           nilK r97.outs <|
           nilK r97.tbs <|
           zdi r97.r fun ts98=>
           zaw ([Lf.any,Lf.any]) ts98 fun c99=>
           za7 c99.1 fun l100=>
           asI .i64 c99.2.1 fun i101=>
           zam (zbm [.agg [.int .i64 i84,.int .i64 i85,.int .i64 i86],.agg [.int .i64 i87,.int .i64 i88,.int .i64 i89],.int .i64 i92]) fun r102=>
           zdi r102 fun ts103=>
           zaw ([Lf.any,Lf.any]) ts103 fun c104=>
           asI .i64 c104.1 fun i105=>
           asI .i64 c104.2.1 fun i106=>
           brK (i101 != 0)
            (some (.bool false))
            (sif (0+l100.length≤l100.length) <|
            letN (IntKind.i64.wrap (i106 - i105)) fun n107=>
            brK ((↑(l100.length):Int) != n107)
             (some (.bool false))
             (sif (0+l100.length≤l100.length) <|
             sif (l91.length=l91.length) <|
             sif (l100.length=l100.length) <|
             zca (α:=(List D×(Int×Int×Int×PUnit)×(Int×Int×Int×PUnit)×D×List D×Int×List D×Int×Int×Int×PUnit)×List (List D)×List (List D)×PUnit) (fun again108 ((l109,((i110,(i111,(i112,_))),((i113,(i114,(i115,_))),(x116,(l117,(i118,(l119,(i120,(i121,(i122,_)))))))))),(U123,(U124,_)))=>
              brK (decide (i122 < i121))
               (letN (IntKind.i64.wrap (i120+i122)) fun n125=>
               zam (zbY [.agg [.int .i64 i110,.int .i64 i111,.int .i64 i112],.int .i64 n125]) fun r126=>
               zdi r126 fun ts127=>
               zaw ([Lf.any,Lf.any,Lf.any]) ts127 fun c128=>
               asI .i64 c128.1 fun i129=>
               asI .i64 c128.2.1 fun i130=>
               asB c128.2.2.1 fun b131=>
               jn (α:=(List D×(Int×Int×Int×PUnit)×(Int×Int×Int×PUnit)×D×List D×Int×List D×Int×Int×(Tag×List D)×Int×Int×PUnit)×List (List D)×List (List D)×PUnit) (fun a132=>
                 sif (0≤a132.1.2.2.2.2.2.2.2.2.1) <|
                 sif (Int.toNat a132.1.2.2.2.2.2.2.2.2.1 < List.length a132.1.2.2.2.2.2.2.1) <|
                 getK a132.1.2.2.2.2.2.2.1 (0+Int.toNat a132.1.2.2.2.2.2.2.2.2.1) fun d133=>
                 asSl d133 fun t134 l135=>
                 zam (zaA [.sl t134 l135,.sl a132.1.2.2.2.2.2.2.2.2.2.1.1 a132.1.2.2.2.2.2.2.2.2.2.1.2]) fun r136=>
                 asB r136 fun b137=>
                 brK (!b137)
                  (some (.bool false))
                  (letN (IntKind.i64.wrap (a132.1.2.2.2.2.2.2.2.2.2.2.2.1+1)) fun n138=>
                  sif (List.length a132.1.2.2.2.2.1=List.length a132.1.2.2.2.2.1) <|
                  sif (List.length a132.1.2.2.2.2.2.2.1=List.length a132.1.2.2.2.2.2.2.1) <|
                  again108 (((a132.1.1,(a132.1.2.1.1,a132.1.2.1.2.1,a132.1.2.1.2.2.1,unit),(a132.1.2.2.1.1,a132.1.2.2.1.2.1,a132.1.2.2.1.2.2.1,unit),a132.1.2.2.2.1,a132.1.2.2.2.2.1,a132.1.2.2.2.2.2.1,a132.1.2.2.2.2.2.2.1,a132.1.2.2.2.2.2.2.2.1,a132.1.2.2.2.2.2.2.2.2.2.2.1,n138,unit),a132.2.1,a132.2.2.1,unit))))
                (fun j139=>
                brK b131
                 (zam (za2 [.agg [.int .i64 i110,.int .i64 i111,.int .i64 i112],.int .i64 i130]) fun r140=>
                 za7 r140 fun l141=>
                 sif (0+l141.length≤l141.length) <|
                 sif (l117.length=l117.length) <|
                 sif (l119.length=l119.length) <|
                 sif (l141.length=l141.length) <|
                 zca (α:=(List D×(Int×Int×Int×PUnit)×(Int×Int×Int×PUnit)×D×List D×Int×List D×Int×Int×(Tag×List D)×Int×Int×Int×List D×Int×Int×PUnit)×List (List D)×List (List D)×PUnit) (fun again142 ((l143,((i144,(i145,(i146,_))),((i147,(i148,(i149,_))),(x150,(l151,(i152,(l153,(i154,(i155,((t156,l157),(i158,(i159,(i160,(l161,(i162,(i163,_)))))))))))))))),(U164,(U165,_)))=>
                  brK (decide (i163 < i162))
                   (sif (0≤i163) <|
                   sif (i163.toNat < l161.length) <|
                   getK l161 (0+i163.toNat) fun d166=>
                   asI .i64 d166 fun i167=>
                   letN (IntKind.i64.wrap (i154+i155)) fun n168=>
                   jn (α:=(List D×(Int×Int×Int×PUnit)×(Int×Int×Int×PUnit)×D×List D×Int×List D×Int×Int×(Tag×List D)×Int×Int×Int×List D×Int×Int×PUnit)×List (List D)×List (List D)×PUnit) (fun a169=>
                     letN (IntKind.i64.wrap (a169.1.2.2.2.2.2.2.2.2.2.2.2.2.2.2.2.1+1)) fun n170=>
                     sif (List.length a169.1.2.2.2.2.1=List.length a169.1.2.2.2.2.1) <|
                     sif (List.length a169.1.2.2.2.2.2.2.1=List.length a169.1.2.2.2.2.2.2.1) <|
                     sif (List.length a169.1.2.2.2.2.2.2.2.2.2.2.2.2.2.1=List.length a169.1.2.2.2.2.2.2.2.2.2.2.2.2.2.1) <|
                     again142 (((a169.1.1,(a169.1.2.1.1,a169.1.2.1.2.1,a169.1.2.1.2.2.1,unit),(a169.1.2.2.1.1,a169.1.2.2.1.2.1,a169.1.2.2.1.2.2.1,unit),a169.1.2.2.2.1,a169.1.2.2.2.2.1,a169.1.2.2.2.2.2.1,a169.1.2.2.2.2.2.2.1,a169.1.2.2.2.2.2.2.2.1,a169.1.2.2.2.2.2.2.2.2.1,(a169.1.2.2.2.2.2.2.2.2.2.1.1,a169.1.2.2.2.2.2.2.2.2.2.1.2),a169.1.2.2.2.2.2.2.2.2.2.2.1,a169.1.2.2.2.2.2.2.2.2.2.2.2.1,a169.1.2.2.2.2.2.2.2.2.2.2.2.2.1,a169.1.2.2.2.2.2.2.2.2.2.2.2.2.2.1,a169.1.2.2.2.2.2.2.2.2.2.2.2.2.2.2.1,n170,unit),a169.2.1,a169.2.2.1,unit)))
                    (fun j171=>
                    brK (i167 == n168)
                     (zam (zby [.agg [.int .i64 i144,.int .i64 i145,.int .i64 i146],.int .i64 i158,.sl .lent l143]) fun r172=>
                     za7 r172 fun l173=>
                     sif (0≤i163) <|
                     sif (i163.toNat < l173.length) <|
                     getK l173 (0+i163.toNat) fun d174=>
                     asSl d174 fun t175 l176=>
                     sif (l151.length=l151.length) <|
                     sif (l153.length=l153.length) <|
                     sif (l161.length=l161.length) <|
                     j171 (((l143,(i144,i145,i146,unit),(i147,i148,i149,unit),x150,l151,i152,l153,i154,i155,(t175,l176),i158,i159,i160,l161,i162,i163,unit),U164,U165,unit)))
                     (sif (l151.length=l151.length) <|
                     sif (l153.length=l153.length) <|
                     sif (l161.length=l161.length) <|
                     j171 (((l143,(i144,i145,i146,unit),(i147,i148,i149,unit),x150,l151,i152,l153,i154,i155,(t156,l157),i158,i159,i160,l161,i162,i163,unit),U164,U165,unit)))))
                   (sif (l151.length=l151.length) <|
                   sif (l153.length=l153.length) <|
                   j139 (((l143,(i144,i145,i146,unit),(i147,i148,i149,unit),x150,l151,i152,l153,i154,i155,(t156,l157),i159,i160,unit),U164,U165,unit))))
                  (((l109,(i110,i111,i112,unit),(i113,i114,i115,unit),x116,l117,i118,l119,i120,i122,(Tag.fresh,[.int .u8 0,.int .u8 0,.int .u8 0,.int .u8 0,.int .u8 0,.int .u8 0,.int .u8 0,.int .u8 0,.int .u8 0,.int .u8 0,.int .u8 0,.int .u8 0,.int .u8 0,.int .u8 0,.int .u8 0,.int .u8 0,.int .u8 0,.int .u8 0,.int .u8 0,.int .u8 0,.int .u8 0,.int .u8 0,.int .u8 0,.int .u8 0,.int .u8 0,.int .u8 0,.int .u8 0,.int .u8 0,.int .u8 0,.int .u8 0,.int .u8 0,.int .u8 0]),i130,i121,i122,l141,(↑(l141.length):Int),(0:Int),unit),U123,U124,unit)))
                 (sif (l117.length=l117.length) <|
                 sif (l119.length=l119.length) <|
                 j139 (((l109,(i110,i111,i112,unit),(i113,i114,i115,unit),x116,l117,i118,l119,i120,i122,(Tag.fresh,[.int .u8 0,.int .u8 0,.int .u8 0,.int .u8 0,.int .u8 0,.int .u8 0,.int .u8 0,.int .u8 0,.int .u8 0,.int .u8 0,.int .u8 0,.int .u8 0,.int .u8 0,.int .u8 0,.int .u8 0,.int .u8 0,.int .u8 0,.int .u8 0,.int .u8 0,.int .u8 0,.int .u8 0,.int .u8 0,.int .u8 0,.int .u8 0,.int .u8 0,.int .u8 0,.int .u8 0,.int .u8 0,.int .u8 0,.int .u8 0,.int .u8 0,.int .u8 0]),i121,i122,unit),U123,U124,unit)))))
               (sif (0+l117.length≤l117.length) <|
               sif (0+l119.length≤l119.length) <|
               zam (zbt [x116,.sl .lent (cut 0 l117.length l117),.agg [.int .i64 i110,.int .i64 i111,.int .i64 i112],.agg [.int .i64 i113,.int .i64 i114,.int .i64 i115],.int .i64 i118,.sl .lent (cut 0 l119.length l119)] [U123,U124]) fun r177=>
               nilK r177.outs <|
               zdd r177.tbs fun c178 q179=>
               zdd q179 fun c180 q181=>
               nilK q181 <|
               asI .i64 r177.r fun i182=>
               brK (i182 != 0)
                (some (.bool false))
                (letN (IntKind.i64.wrap (i118+1)) fun n183=>
                sif (l117.length=l117.length) <|
                again82 (((l109,(i110,i111,i112,unit),(i113,i114,i115,unit),x116,l117,n183,unit),c178,c180,unit)))))
              (((l83,(i84,i85,i86,unit),(i87,i88,i89,unit),x90,l91,i92,l100,i105,(↑(l100.length):Int),(0:Int),unit),U93,U94,unit)))))
           (zam (zbp []) fun r184=>
           asB r184 fun b185=>
           some (.bool b185)))
          (((l21,(i25,i26,i27,unit),(i28,i29,i30,unit),x31,l32,n81,unit),c76,c78,unit))))))
      (asH ((2496:Nat)) x31 fun h186=>
      zam (zbi [.h 2496 h186 0] [c61]) fun r187=>
      nilK r187.outs <|
      nilK r187.tbs <|
      asB r187.r fun b188=>
      brK ((i65 == 6) != b188)
       (some (.bool false))
       (zam (zbo [x31,.sl .lent l24] [c61,c63]) fun r189=>
       nilK r189.outs <|
       zdd r189.tbs fun c190 q191=>
       zdd q191 fun c192 q193=>
       nilK q193 <|
       zdi r189.r fun ts194=>
       nilK ts194 <|
       sif (0+l32.length≤l32.length) <|
       sif (0+l51.length≤l51.length) <|
       zam (zbt [x31,.sl .lent (cut 0 l32.length l32),.agg [.int .i64 i25,.int .i64 i26,.int .i64 i27],.agg [.int .i64 i28,.int .i64 i29,.int .i64 i30],.int .i64 i22,.sl .lent (cut 0 l51.length l51)] [c190,c192]) fun r195=>
       nilK r195.outs <|
       zdd r195.tbs fun c196 q197=>
       zdd q197 fun c198 q199=>
       nilK q199 <|
       asI .i64 r195.r fun i200=>
       brK (i200 != 0)
        (some (.bool false))
        (letN (IntKind.i64.wrap (i22+1)) fun n201=>
        sif (l32.length=l32.length) <|
        zca (α:=(List D×(Int×Int×Int×PUnit)×(Int×Int×Int×PUnit)×D×List D×Int×PUnit)×List (List D)×List (List D)×PUnit) (fun again202 ((l203,((i204,(i205,(i206,_))),((i207,(i208,(i209,_))),(x210,(l211,(i212,_)))))),(U213,(U214,_)))=>
         zam (zaz [.agg [.int .i64 i204,.int .i64 i205,.int .i64 i206],.agg [.int .i64 i207,.int .i64 i208,.int .i64 i209]]) fun r215=>
         asI .i64 r215 fun i216=>
         brK (decide (i212 < i216))
          (sif (0+l211.length≤l211.length) <|
          zam (za6 [x210,.sl .lent (cut 0 l211.length l211),.agg [.int .i64 i204,.int .i64 i205,.int .i64 i206],.agg [.int .i64 i207,.int .i64 i208,.int .i64 i209],.int .i64 i212] [U213,U214]) fun r217=>
          nilK r217.outs <|
          nilK r217.tbs <|
          zdi r217.r fun ts218=>
          zaw ([Lf.any,Lf.any]) ts218 fun c219=>
          za7 c219.1 fun l220=>
          asI .i64 c219.2.1 fun i221=>
          zam (zbm [.agg [.int .i64 i204,.int .i64 i205,.int .i64 i206],.agg [.int .i64 i207,.int .i64 i208,.int .i64 i209],.int .i64 i212]) fun r222=>
          zdi r222 fun ts223=>
          zaw ([Lf.any,Lf.any]) ts223 fun c224=>
          asI .i64 c224.1 fun i225=>
          asI .i64 c224.2.1 fun i226=>
          brK (i221 != 0)
           (some (.bool false))
           (sif (0+l220.length≤l220.length) <|
           letN (IntKind.i64.wrap (i226 - i225)) fun n227=>
           brK ((↑(l220.length):Int) != n227)
            (some (.bool false))
            (sif (0+l220.length≤l220.length) <|
            sif (l211.length=l211.length) <|
            sif (l220.length=l220.length) <|
            zca (α:=(List D×(Int×Int×Int×PUnit)×(Int×Int×Int×PUnit)×D×List D×Int×List D×Int×Int×Int×PUnit)×List (List D)×List (List D)×PUnit) (fun again228 ((l229,((i230,(i231,(i232,_))),((i233,(i234,(i235,_))),(x236,(l237,(i238,(l239,(i240,(i241,(i242,_)))))))))),(U243,(U244,_)))=>
             brK (decide (i242 < i241))
              (letN (IntKind.i64.wrap (i240+i242)) fun n245=>
              zam (zbY [.agg [.int .i64 i230,.int .i64 i231,.int .i64 i232],.int .i64 n245]) fun r246=>
              zdi r246 fun ts247=>
              zaw ([Lf.any,Lf.any,Lf.any]) ts247 fun c248=>
              asI .i64 c248.1 fun i249=>
              asI .i64 c248.2.1 fun i250=>
              asB c248.2.2.1 fun b251=>
              jn (α:=(List D×(Int×Int×Int×PUnit)×(Int×Int×Int×PUnit)×D×List D×Int×List D×Int×Int×(Tag×List D)×Int×Int×PUnit)×List (List D)×List (List D)×PUnit) (fun a252=>
                sif (0≤a252.1.2.2.2.2.2.2.2.2.1) <|
                sif (Int.toNat a252.1.2.2.2.2.2.2.2.2.1 < List.length a252.1.2.2.2.2.2.2.1) <|
                getK a252.1.2.2.2.2.2.2.1 (0+Int.toNat a252.1.2.2.2.2.2.2.2.2.1) fun d253=>
                asSl d253 fun t254 l255=>
                zam (zaA [.sl t254 l255,.sl a252.1.2.2.2.2.2.2.2.2.2.1.1 a252.1.2.2.2.2.2.2.2.2.2.1.2]) fun r256=>
                asB r256 fun b257=>
                brK (!b257)
                 (some (.bool false))
                 (letN (IntKind.i64.wrap (a252.1.2.2.2.2.2.2.2.2.2.2.2.1+1)) fun n258=>
                 sif (List.length a252.1.2.2.2.2.1=List.length a252.1.2.2.2.2.1) <|
                 sif (List.length a252.1.2.2.2.2.2.2.1=List.length a252.1.2.2.2.2.2.2.1) <|
                 again228 (((a252.1.1,(a252.1.2.1.1,a252.1.2.1.2.1,a252.1.2.1.2.2.1,unit),(a252.1.2.2.1.1,a252.1.2.2.1.2.1,a252.1.2.2.1.2.2.1,unit),a252.1.2.2.2.1,a252.1.2.2.2.2.1,a252.1.2.2.2.2.2.1,a252.1.2.2.2.2.2.2.1,a252.1.2.2.2.2.2.2.2.1,a252.1.2.2.2.2.2.2.2.2.2.2.1,n258,unit),a252.2.1,a252.2.2.1,unit))))
               (fun j259=>
               brK b251
                (zam (za2 [.agg [.int .i64 i230,.int .i64 i231,.int .i64 i232],.int .i64 i250]) fun r260=>
                za7 r260 fun l261=>
                sif (0+l261.length≤l261.length) <|
                sif (l237.length=l237.length) <|
                sif (l239.length=l239.length) <|
                sif (l261.length=l261.length) <|
                zca (α:=(List D×(Int×Int×Int×PUnit)×(Int×Int×Int×PUnit)×D×List D×Int×List D×Int×Int×(Tag×List D)×Int×Int×Int×List D×Int×Int×PUnit)×List (List D)×List (List D)×PUnit) (fun again262 ((l263,((i264,(i265,(i266,_))),((i267,(i268,(i269,_))),(x270,(l271,(i272,(l273,(i274,(i275,((t276,l277),(i278,(i279,(i280,(l281,(i282,(i283,_)))))))))))))))),(U284,(U285,_)))=>
                 brK (decide (i283 < i282))
                  (sif (0≤i283) <|
                  sif (i283.toNat < l281.length) <|
                  getK l281 (0+i283.toNat) fun d286=>
                  asI .i64 d286 fun i287=>
                  letN (IntKind.i64.wrap (i274+i275)) fun n288=>
                  jn (α:=(List D×(Int×Int×Int×PUnit)×(Int×Int×Int×PUnit)×D×List D×Int×List D×Int×Int×(Tag×List D)×Int×Int×Int×List D×Int×Int×PUnit)×List (List D)×List (List D)×PUnit) (fun a289=>
                    letN (IntKind.i64.wrap (a289.1.2.2.2.2.2.2.2.2.2.2.2.2.2.2.2.1+1)) fun n290=>
                    sif (List.length a289.1.2.2.2.2.1=List.length a289.1.2.2.2.2.1) <|
                    sif (List.length a289.1.2.2.2.2.2.2.1=List.length a289.1.2.2.2.2.2.2.1) <|
                    sif (List.length a289.1.2.2.2.2.2.2.2.2.2.2.2.2.2.1=List.length a289.1.2.2.2.2.2.2.2.2.2.2.2.2.2.1) <|
                    again262 (((a289.1.1,(a289.1.2.1.1,a289.1.2.1.2.1,a289.1.2.1.2.2.1,unit),(a289.1.2.2.1.1,a289.1.2.2.1.2.1,a289.1.2.2.1.2.2.1,unit),a289.1.2.2.2.1,a289.1.2.2.2.2.1,a289.1.2.2.2.2.2.1,a289.1.2.2.2.2.2.2.1,a289.1.2.2.2.2.2.2.2.1,a289.1.2.2.2.2.2.2.2.2.1,(a289.1.2.2.2.2.2.2.2.2.2.1.1,a289.1.2.2.2.2.2.2.2.2.2.1.2),a289.1.2.2.2.2.2.2.2.2.2.2.1,a289.1.2.2.2.2.2.2.2.2.2.2.2.1,a289.1.2.2.2.2.2.2.2.2.2.2.2.2.1,a289.1.2.2.2.2.2.2.2.2.2.2.2.2.2.1,a289.1.2.2.2.2.2.2.2.2.2.2.2.2.2.2.1,n290,unit),a289.2.1,a289.2.2.1,unit)))
                   (fun j291=>
                   brK (i287 == n288)
                    (zam (zby [.agg [.int .i64 i264,.int .i64 i265,.int .i64 i266],.int .i64 i278,.sl .lent l263]) fun r292=>
                    za7 r292 fun l293=>
                    sif (0≤i283) <|
                    sif (i283.toNat < l293.length) <|
                    getK l293 (0+i283.toNat) fun d294=>
                    asSl d294 fun t295 l296=>
                    sif (l271.length=l271.length) <|
                    sif (l273.length=l273.length) <|
                    sif (l281.length=l281.length) <|
                    j291 (((l263,(i264,i265,i266,unit),(i267,i268,i269,unit),x270,l271,i272,l273,i274,i275,(t295,l296),i278,i279,i280,l281,i282,i283,unit),U284,U285,unit)))
                    (sif (l271.length=l271.length) <|
                    sif (l273.length=l273.length) <|
                    sif (l281.length=l281.length) <|
                    j291 (((l263,(i264,i265,i266,unit),(i267,i268,i269,unit),x270,l271,i272,l273,i274,i275,(t276,l277),i278,i279,i280,l281,i282,i283,unit),U284,U285,unit)))))
                  (sif (l271.length=l271.length) <|
                  sif (l273.length=l273.length) <|
                  j259 (((l263,(i264,i265,i266,unit),(i267,i268,i269,unit),x270,l271,i272,l273,i274,i275,(t276,l277),i279,i280,unit),U284,U285,unit))))
                 (((l229,(i230,i231,i232,unit),(i233,i234,i235,unit),x236,l237,i238,l239,i240,i242,(Tag.fresh,[.int .u8 0,.int .u8 0,.int .u8 0,.int .u8 0,.int .u8 0,.int .u8 0,.int .u8 0,.int .u8 0,.int .u8 0,.int .u8 0,.int .u8 0,.int .u8 0,.int .u8 0,.int .u8 0,.int .u8 0,.int .u8 0,.int .u8 0,.int .u8 0,.int .u8 0,.int .u8 0,.int .u8 0,.int .u8 0,.int .u8 0,.int .u8 0,.int .u8 0,.int .u8 0,.int .u8 0,.int .u8 0,.int .u8 0,.int .u8 0,.int .u8 0,.int .u8 0]),i250,i241,i242,l261,(↑(l261.length):Int),(0:Int),unit),U243,U244,unit)))
                (sif (l237.length=l237.length) <|
                sif (l239.length=l239.length) <|
                j259 (((l229,(i230,i231,i232,unit),(i233,i234,i235,unit),x236,l237,i238,l239,i240,i242,(Tag.fresh,[.int .u8 0,.int .u8 0,.int .u8 0,.int .u8 0,.int .u8 0,.int .u8 0,.int .u8 0,.int .u8 0,.int .u8 0,.int .u8 0,.int .u8 0,.int .u8 0,.int .u8 0,.int .u8 0,.int .u8 0,.int .u8 0,.int .u8 0,.int .u8 0,.int .u8 0,.int .u8 0,.int .u8 0,.int .u8 0,.int .u8 0,.int .u8 0,.int .u8 0,.int .u8 0,.int .u8 0,.int .u8 0,.int .u8 0,.int .u8 0,.int .u8 0,.int .u8 0]),i241,i242,unit),U243,U244,unit)))))
              (sif (0+l237.length≤l237.length) <|
              sif (0+l239.length≤l239.length) <|
              zam (zbt [x236,.sl .lent (cut 0 l237.length l237),.agg [.int .i64 i230,.int .i64 i231,.int .i64 i232],.agg [.int .i64 i233,.int .i64 i234,.int .i64 i235],.int .i64 i238,.sl .lent (cut 0 l239.length l239)] [U243,U244]) fun r297=>
              nilK r297.outs <|
              zdd r297.tbs fun c298 q299=>
              zdd q299 fun c300 q301=>
              nilK q301 <|
              asI .i64 r297.r fun i302=>
              brK (i302 != 0)
               (some (.bool false))
               (letN (IntKind.i64.wrap (i238+1)) fun n303=>
               sif (l237.length=l237.length) <|
               again202 (((l229,(i230,i231,i232,unit),(i233,i234,i235,unit),x236,l237,n303,unit),c298,c300,unit)))))
             (((l203,(i204,i205,i206,unit),(i207,i208,i209,unit),x210,l211,i212,l220,i225,(↑(l220.length):Int),(0:Int),unit),U213,U214,unit)))))
          (zam (zbp []) fun r304=>
          asB r304 fun b305=>
          some (.bool b305)))
         (((l21,(i25,i26,i27,unit),(i28,i29,i30,unit),x31,l32,n201,unit),c196,c198,unit))))))))
   (((a2,i19,a4,a5,(c5.1,c5.2.1,c5.2.2.1,unit),(c7.1,c7.2.1,c7.2.2.1,unit),r8.r,l15,(0:Int),unit),c9,c11,unit)))
theorem zi8 (zbR:Zp) (zbh:Zs) (zbT zaz zad:Zp) (za6 zbt zbk zbi zbo:Zs) (zbm zbY za2 zby zaA zbp:Zp) (tga2 tga5:Tag) (a0 a1:Int) (a2:List D) (a3 a4:Int) (a5:List D):denT Tryz.prog (zav [(ID.wattleplay_Pair,(.pure [0,0] zbR)),(ID.wattlelaw14_Filled,(.st [] [0] [(2496,true),(8225,true)] zbh)),(ID.wattleplay_Live,(.pure [1] zbT)),(ID.wattleref01_Windows,(.pure [0] zaz)),(ID.wattlekeep_Within,(.pure [0] zad)),(ID.window_Read,(.st [] [1,0] [(2496,false),(8225,false)] za6)),(ID.window_Write,(.st [] [0] [(2496,true),(8225,true)] zbt)),(ID.bench_counter_Limit,(.st [] [] [(2496,true)] zbk)),(ID.bench_counter_Down,(.st [] [0] [(2496,false)] zbi)),(ID.bench_Bench_Crash,(.st [] [] [(2496,true),(8225,true)] zbo)),(ID.wattleref01_Span,(.pure [0,0] zbm)),(ID.wattleref01_Of,(.pure [0,0,0] zbY)),(ID.wattleref01_Numbers,(.pure [1] za2)),(ID.wattlelaw14_Data,(.pure [1] zby)),(ID.wattlekeep_Same_byte,(.pure [0] zaA)),(ID.wattlelaw20_wakes,(.pure [0] zbp))]) zey [0] ID.wattlelaw20_WindowCrash [.int .i64 a0,.int .i64 a1,.sl tga2 a2,.int .i64 a3,.int .i64 a4,.sl tga5 a5]=sif (D.nohL [.int .i64 a0,.int .i64 a1,.sl tga2 a2,.int .i64 a3,.int .i64 a4,.sl tga5 a5]=true) (zdH zbR zbh zbT zaz zad za6 zbt zbk zbi zbo zbm zbY za2 zby zaA zbp a0 a1 (D.lentL a2) a3 a4 (D.lentL a5)):=by kernel_rfl
theorem zhw (tga2 tga5:Tag) (a0 a1:Int) (a2:List D) (a3 a4:Int) (a5:List D):zdG [.int .i64 a0,.int .i64 a1,.sl tga2 a2,.int .i64 a3,.int .i64 a4,.sl tga5 a5]=sif (D.nohL [.int .i64 a0,.int .i64 a1,.sl tga2 a2,.int .i64 a3,.int .i64 a4,.sl tga5 a5]=true) (zdH zbR zbh zbT zaz zad za6 zbt zbk zbi zbo zbm zbY za2 zby zaA zbp a0 a1 (D.lentL a2) a3 a4 (D.lentL a5)):=zi8 zbR zbh zbT zaz zad za6 zbt zbk zbi zbo zbm zbY za2 zby zaA zbp tga2 tga5 a0 a1 a2 a3 a4 a5
end Wf

namespace Wf
open Go Go.RowKit Go.Proofs
set_option linter.unusedSimpArgs false
set_option linter.unusedVariables false
set_option maxHeartbeats 4000000
theorem zEw {B:Ben} {live:List Bool} {a to:Geo} {k:Int} {data:List (List Int)} (h:WinD a to k data) {x:Act} (hx:x∈B.wwActs live a to k data) {e b:Int} (hb:¬ (k*zaT a to≤b - 36∧b - 36 < (k+1)*zaT a to)):x.at e b=false:=by
 rcases List.mem_append.1 hx with hx | hx
 ·obtain ⟨r,r0,r1,hx⟩:=zxa h hx;unfold Ben.wActs at hx;obtain ⟨d,hd,hx⟩:=List.mem_flatMap.1 hx;split at hx
  ·rw [List.mem_singleton.1 hx]
   unfold Act.at
   dsimp only;rw [decide_eq_false_iff_not]
   rintro ⟨rfl,rfl⟩
   exact hb ⟨by omega,by omega⟩
  ·cases hx
 ·exact zwA e b x hx
theorem window_crash (a0 a1:Int) (l:List Int) (a3 a4:Int) (ks:List Bool) (tg tg':Tag):zdG [.int .i64 a0,.int .i64 a1,.sl tg (intL l),.int .i64 a3,.int .i64 a4,.sl tg' (ks.map D.bool)]=some (.bool true):=by
 rw [zhw,zpa,zeH]
 rw [zab (by simp [D.nohL,D.noh,zE2,zEu])]
 unfold zdH;obtain ⟨x,y,hpair,hcan,hx5,hy8⟩:=zDO a0 a1;obtain ⟨k1,k2,k3,k4,k5,k6⟩:=zkd.1 hcan;have hxd:=ok_d k1;have hyd:=ok_d k2;have hxl:=zdN.1 k1;have hxw:=zbZ k1
 obtain ⟨n,hn⟩:∃ n:Nat,(n:Int)=y.d:=⟨y.d.toNat,by omega⟩
 have hfr:=zB8 [] [] k1 (n:=n) (by omega) (by omega) .lent l
 simp only [List.length_nil] at hfr;obtain ⟨U,V,idx,B0,hfil,hB0,hS0,hw0,hc0,_⟩:=hfr;rw [hn] at hfil
 have hlive:=zFY (d:=n) (by omega) (by omega)
 rw [hn] at hlive;obtain ⟨e3,e4,e5⟩:=zyg hcan;have hrw:=(zlS hcan).2
 have hkk:=ztR a3 (winP x y) (by omega) (by omega)
 have kk0:=Int.emod_nonneg a3 (show winP x y≠0 by omega)
 have kk1:=Int.emod_lt_of_pos a3 (show (0:Int) < winP x y by omega)
 generalize a3 % winP x y=kk at*
 obtain ⟨q,rfl⟩:∃ q:Nat,kk=(q:Int):=⟨kk.toNat,by omega⟩
 have hli:=ztR a4 40 (by omega) (by omega)
 have l0:=Int.emod_nonneg a4 (show (40:Int)≠0 by omega)
 have l1:=Int.emod_lt_of_pos a4 (show (0:Int) < 40 by omega)
 generalize hm':a4 % 40=m at*
 have hR:∀ r:Nat,r < 16→Row x (rowL x l r):=fun r _=>zsb k1 l r
 have hlv:∀ (C:Ben),C.n=n→(∀ e:Int,C.failed e=false)→∀ e:Int,0≤e→C.up (List.replicate n true) e=decide (e < n):=fun C hC hf e e0=>by rw [zGA hC e0,hf e]; simp
 generalize hlve:List.replicate n true=live at*
 have hlost:∀ (C:Ben),C.n=n→(∀ e:Int,C.failed e=false)→(C.lostN live x:Int)≤x.l - 4:=fun C hC hf=>by
  have:=zF6 (B:=C) (live:=live) (g:=x) (d:= -1) (by omega) fun e e0 e1 he=>by rw [hlv C hC hf e e0]; simp; omega
  omega
 have hM0:MvS U V 0 idx n live x (rowL x l) ((0:Int)*zaT x y) 0 B0:=⟨hB0,fun r r1 r2 e e0 e1 hu=>by
  have:=hc0 e r e0 e1 (by omega) (by omega) (by omega); rw [Int.toNat_natCast] at this; exact this,hlost B0 hB0.num hS0.failed⟩
 have hmv:=fun (j:Nat) (hj:(j:Int)≤winP x y)=>by
  have:=hM0.mv (to:=y) (by omega) (by omega) hR j (by omega) (by omega)
  rw [Int.zero_add] at this;exact this
 have hsucc:∀ j:Nat,B0.mv live x y (rowL x l) 0 (j+1)=(B0.mv live x y (rowL x l) 0 j).mv1 live x y (rowL x l) j:=fun j=>by
  show (B0.mv live x y (rowL x l) 0 j).mv1 live x y (rowL x l) (0+(j:Int))=_;rw [Int.zero_add]
 have hf0:∀ (j:Nat),(j:Int)≤winP x y→∀ e,(B0.mv live x y (rowL x l) 0 j).failed e=false:=fun j hj e=>((hmv j hj).2.1 e).trans (hS0.failed e)
 have hpn0:∀ (j:Nat),(j:Int)≤winP x y→∀ e:Int,0≤e→((B0.mv live x y (rowL x l) 0 j).dk e).pend=[]:=fun j hj e e0=>
  List.length_eq_zero_iff.1 ((hmv j hj).2.2.2 (fun e _=>zF7 hS0 e) e e0)
 generalize hBf:B0.mv live x y (rowL x l) 0=Bf at*
 have hB0f:Bf 0=B0:=by rw [←hBf]; rfl
 obtain ⟨hMq,_,_,_⟩:=hmv q (by omega)
 have hfq:=hf0 q (by omega)
 have hpq:=hpn0 q (by omega)
 have hBq:=hMq.run;have hWq:=zkY kk0 kk1;have hss:=hWq.ss;have hmm:=hWq.m;have hs0:=hWq.s0;have hD:=zEv kk0 kk1 hR
 have hA3:At U V 0 idx ((Bf q).limit m):=hBq.at'.limit (by omega)
 have hw3:=zry hA3 (by show (Bf q).w≤900000; have:=hBq.w; omega) .lent live x y (q:Int) .lent (data:=winL x y (rowL x l) q) (by have:=hD.len; omega) (fun z hz _=>hD.sec z hz)
 have hok3:=zyT (B:=(Bf q).limit m) (live:=live) hD;have hacts:=zt7 (live:=live) hA3.ok hD;obtain ⟨pre,post,q1,q2,q3,q4,q5,q6⟩:=zF8 hA3.ok hBq.down hok3;have hnw:=zyU (B:=(Bf q).limit m) (live:=live) hD;rw [←hacts] at q3 q4 q5 q6;generalize hY:((Bf q).limit m).wWrite live x y q (winL x y (rowL x l) q)=Y at*
 have hpre:∀ a∈pre,a∈((Bf q).limit m).wwActs live x y q (winL x y (rowL x l) q):=fun a ha=>by rw [q1]; exact List.mem_append_left _ ha
 have hYat:At U V 0 idx Y.2:=hA3.nx q4
 have hYw:Y.2.w≤600:=by
  have:=q4.w;have hh:((Bf q).limit m).w=(Bf q).w:=rfl;have:=hBq.w;omega
 have hcr:=zH6 hYat (by omega) .lent ks
 obtain ⟨r1,r2,r3,r4,r5⟩:=zmJ hYat.ok ks
 have hB4:Run U V 0 idx (Y.2.crash ks) n 600:=⟨hYat.crash ks,by rw [r1.n,q5.1]; exact hBq.num,r4,r3,by omega⟩
 have hf4:∀ e:Int,(Y.2.crash ks).failed e=false:=fun e=>by rw [zCe hYat.ok,q5.2]; exact hfq e
 have hYis:∀ e:Int,0≤e→e < n→Y.2.is e=true:=fun e e0 e1=>zeI.2 ⟨e0,by rw [q5.1]; show e < (Bf q).n; rw [hBq.num]; exact e1⟩
 have hM4:MvS U V 0 idx n live x (rowL x l) (((q:Int)+1)*zaT x y) 600 (Y.2.crash ks):=⟨hB4,fun r r1' r2' e e0 e1 hu=>by
  have hen:e < n:=by omega
  have hno:∀ c∈pre,c.at e (36+r)=false:=fun c hc=>zEw hD (hpre c hc) (by omega)
  rw [zCd hYat.ok ks (hYis e e0 hen) (by omega) (by omega) (fun w hw hwa=>?_)]
  ·have hcu:Y.2.cur e (36+r)=(Bf q).cur e (36+r):=by
    unfold Ben.cur;rw [q3 e]
    have:=q2.cur e (36+r) e0 (by omega) (by omega)
    rw [zhA hno] at this;exact this
   rw [hcu]
   exact hMq.old r r1' (by have:=hWq.rr; omega) e e0 e1 (by rw [hlv _ hBq.num hfq e e0]; simp; omega)
  ·rw [q3 e] at hw
   rcases zyY e0 pre hA3.ok (fun c hc=>hok3 c (hpre c hc)) w hw with hw | hw
   ·have:(((Bf q).limit m).dk e).pend=[]:=hpq e e0;rw [this] at hw; cases hw
   ·have:=hno _ hw;unfold Act.at at this;dsimp only at this;rw [decide_eq_false_iff_not] at this;exact this ⟨rfl,hwa⟩,hlost _ hB4.num hf4⟩
 obtain ⟨w5,hM5,f5,_,_⟩:=hM4.write (by omega) .lent .lent kk0 kk1 (Int.le_refl _) hR
 generalize hB5:(Y.2.crash ks).mv1 live x y (rowL x l) q=B5 at*
 have hmv5:=fun (j:Nat) (hj:(q:Int)+1+j≤winP x y)=>hM5.mv (to:=y) (by omega) (by omega) hR j hj (by omega)
 have hsuc5:∀ j:Nat,B5.mv live x y (rowL x l) ((q:Int)+1) (j+1)=(B5.mv live x y (rowL x l) ((q:Int)+1) j).mv1 live x y (rowL x l) ((q:Int)+1+j):=fun j=>rfl
 generalize hBg:B5.mv live x y (rowL x l) ((q:Int)+1)=Bg at*
 have hB0g:Bg 0=B5:=by rw [←hBg]; rfl
 have hww:=zH4;have hwin:zaz [.agg [.int .i64 x.l,.int .i64 x.d,.int .i64 x.c],.agg [.int .i64 y.l,.int .i64 y.d,.int .i64 y.c]]=some (.int .i64 (winP x y)):=ztQ x y
 have hspan:∀ k,zbm [.agg [.int .i64 x.l,.int .i64 x.d,.int .i64 x.c],.agg [.int .i64 y.l,.int .i64 y.d,.int .i64 y.c],.int .i64 k]=some (.tup [.int .i64 (zbF x y k).1,.int .i64 (zbF x y k).2]):=fun k=>zFy x y k
 have hcut:∀ l:List D,cut 0 l.length l=l:=fun l=>zqZ rfl
 have hH:∀ f:Nat→Option D,asH 2496 (D.h kB 0 0) f=f 0:=fun f=>zJO ..
 have hlimb:=zHH hBq.at' m;have hdown:=zJp hYat;have hP1:P1 V idx ((Bf q).limit m)=P1 V idx (Bf q):=rfl;rw [hP1] at hw3;have hxD:x.D=.agg [.int .i64 x.l,.int .i64 x.d,.int .i64 x.c]:=rfl;have hyD:y.D=.agg [.int .i64 y.l,.int .i64 y.d,.int .i64 y.c]:=rfl;rw [hxD,hyD] at hpair;rw [hpair,zac,zc7,zgV,zlL,zfn,zfn,zfn,zem,zlL,zfn,zfn,zfn,zem];dsimp only;rw [hfil,zac];dsimp only
 rw [zbu,zcv,zcv,zbu,zab (by rfl),zDg,zat,hlive,zac,zbw,hwin,zac,zaY,hkk,zac,zaY,zab rfl]
 let s1:Nat→(List D×Int×Int×List D×(Int×Int×Int×PUnit)×(Int×Int×Int×PUnit)×D×List D×Int×PUnit)×List (List D)×List (List D)×PUnit:=fun j=>
  ((intL l,(q:Int),a4,ks.map D.bool,(x.l,x.d,x.c,PUnit.unit),(y.l,y.d,y.c,PUnit.unit),.h kB 0 0,live.map D.bool,(j:Int),PUnit.unit),P0 U 0 idx (Bf j),P1 V idx (Bf j),PUnit.unit)
 have hs10:s1 0=((intL l,(q:Int),a4,ks.map D.bool,(x.l,x.d,x.c,PUnit.unit),(y.l,y.d,y.c,PUnit.unit),.h kB 0 0,live.map D.bool,0,PUnit.unit),P0 U 0 idx B0,P1 V idx B0,PUnit.unit):=by
  simp only [s1]; rw [hB0f]; rfl
 rw [←hs10]
 refine zck s1 q (by omega) ?_ ?_
 ·intro again j hj;dsimp only [s1]
  obtain ⟨hMj,_,_,_⟩:=hmv j (by omega)
  have hrd:=hMj.read (by omega) .lent (k:=(j:Int)) (to:=y) (by omega) (by omega) (Int.le_refl _) hR
  have hWj:=zkY (x:=x) (y:=y) (k:=(j:Int)) (by omega) (by omega)
  obtain ⟨hwr,_,_,_,_⟩:=hMj.write (by omega) .lent .lent (k:=(j:Int)) (to:=y) (by omega) (by omega) (by have:=hWj.rr; have:=hWj.r; omega) hR
  have e6:IntKind.i64.wrap ((j:Int)+1)=((j+1:Nat):Int):=by rw [zah (by omega) (by omega)]; omega
  rw [←hsucc j] at hwr
  rw [zzp (by omega),zab (by omega),hcut,hrd,zac]
  dsimp only;rw [zbu,zbu,zc7,zgV];dsimp only
  rw [zbw,zaY,zhQ rfl,zab (by omega),zab (by omega),hcut,hwr,zac]
  dsimp only;rw [zbu,zcv,zcv,zbu,zaY,zhQ rfl,zaH,e6,zab rfl]
 ·intro again;dsimp only [s1]
  have hrd:=hMq.read (by omega) .lent (k:=(q:Int)) (to:=y) (by omega) (by omega) (Int.le_refl _) hR
  rw [zx7 (by omega),zab (by omega),hcut,hrd,zac]
  dsimp only;rw [zbu,zbu,zc7,zgV];dsimp only;rw [zbw,zaY,zhQ rfl,hH,hli,zac,zaY,hlimb,zac];dsimp only
  rw [zbu,zcv,zbu,zc7,zbu,zab (by omega),zab (by omega),hcut,hw3,zac]
  dsimp only;rw [zbu,zcv,zcv,zbu,zaY]
  have eq1:IntKind.i64.wrap ((q:Int)+1)=(q:Int)+1:=zah (by omega) (by omega)
  rcases q6 with ⟨y1,y2,_,_⟩ | ⟨y1,y2⟩;rw [y1,zhQ rfl,hH,hdown,zac];dsimp only
  rw [zbu,zbu,zcn,y2,show (((0:Int) == 6) != false)=false from rfl,zat,hcr,zac]
  rotate_left
  rw [y1,zDi (by decide),zhQ rfl,hH,hdown,zac]
  dsimp only
  rw [zbu,zbu,zcn,y2,show (((6:Int) == 6) != true)=false from rfl,zat,hcr,zac]
  all_goals
   dsimp only
   rw [zbu,zcv,zcv,zbu,zc7,zbu,zab (by omega),zab (by omega),w5,zac]
   dsimp only;rw [zbu,zcv,zcv,zbu,zaY,zhQ rfl,zaH,eq1,zab rfl]
   let s:Nat→(List D×(Int×Int×Int×PUnit)×(Int×Int×Int×PUnit)×D×List D×Int×PUnit)×List (List D)×List (List D)×PUnit:=fun j=>
    ((intL l,(x.l,x.d,x.c,PUnit.unit),(y.l,y.d,y.c,PUnit.unit),.h kB 0 0,live.map D.bool,(q:Int)+1+j,PUnit.unit),P0 U 0 idx (Bg j),P1 V idx (Bg j),PUnit.unit)
   have hs0':s 0=((intL l,(x.l,x.d,x.c,PUnit.unit),(y.l,y.d,y.c,PUnit.unit),.h kB 0 0,live.map D.bool,(q:Int)+1,PUnit.unit),P0 U 0 idx B5,P1 V idx B5,PUnit.unit):=by
    simp only [s]; rw [hB0g,show (q:Int)+1+((0:Nat):Int)=(q:Int)+1 by omega]
   rw [←hs0']
   refine zck s (winP x y - (q+1)).toNat (by omega) ?_ ?_
   ·intro again2 j hj;dsimp only [s]
    have k0:(0:Int)≤(q:Int)+1+j:=by omega
    have k1':(q:Int)+1+j < winP x y:=by omega
    have e6:IntKind.i64.wrap ((q:Int)+1+j+1)=(q:Int)+1+((j+1:Nat):Int):=by rw [zah (by omega) (by omega)]; omega
    obtain ⟨hMj,_,_,_⟩:=hmv5 j (by omega)
    have hrd:=hMj.read (by omega) .lent (to:=y) k0 k1' (Int.le_refl _) hR
    have hWj:=zkY k0 k1'
    obtain ⟨hwr,_,_,_,_⟩:=hMj.write (by omega) .lent .lent (to:=y) k0 k1' (by have:=hWj.rr; have:=hWj.r; omega) hR
    rw [←hsuc5 j] at hwr;generalize hk:(q:Int)+1+(j:Int)=k at*;have hs0:=hWj.s0;have hss:=hWj.ss;have hm:=hWj.m;have hse:=hWj.se;have hyw:=zbZ k2;have hyc:y.cap=y.width*16:=rfl
    have hlen:(pL (fP (winL x y (rowL x l) k))).length=((zbF x y k).2 - (zbF x y k).1).toNat:=by simp [winL]
    have hget:∀ i:Nat,i < ((zbF x y k).2 - (zbF x y k).1).toNat→(pL (fP (winL x y (rowL x l) k)))[i]? =some (.sl .fresh (uL (zjX x (rowL x l) ((zbF x y k).1+i)))):=fun i hi=>zcW (zvy (zBi (by omega)))
    rw [hwin,zac,zaY,zzp k1',zab (by omega),hcut,hrd,zac]
    dsimp only;rw [zbu,zbu,zc7,zgV];dsimp only;rw [zbw,zaY,hspan,zac,zc7,zgV];dsimp only;generalize hm':((zbF x y k).2 - (zbF x y k).1).toNat=m at*;generalize hfr:(zbF x y k).1=fr at*;generalize hen:(zbF x y k).2=en at*;generalize hQ:pL (fP (winL x y (rowL x l) k))=Q at*
    rw [zaY,zaY,zhQ rfl,zab (by omega),zaH,zah (by omega) (by omega),hlen,zhQ (by omega),zab (by omega),zab rfl,zab rfl]
    let s2:Nat→(List D×(Int×Int×Int×PUnit)×(Int×Int×Int×PUnit)×D×List D×Int×List D×Int×Int×Int×PUnit)×List (List D)×List (List D)×PUnit:=fun i=>
     ((intL l,(x.l,x.d,x.c,PUnit.unit),(y.l,y.d,y.c,PUnit.unit),.h kB 0 0,live.map D.bool,k,Q,fr,(m:Int),(i:Int),PUnit.unit),P0 U 0 idx (Bg j),P1 V idx (Bg j),PUnit.unit)
    show zca _ (s2 0)=_
    refine zck s2 m (by omega) ?_ ?_
    ·intro again3 i hi;dsimp only [s2];have hof:=zHV x (fr+(i:Int))
     have hsec:=zBh hR (n:=fr+(i:Int)) (by omega)
     have hg:=hget i hi
     have hsame:=zyD .fresh .fresh (zjX x (rowL x l) (fr+i)) (zjX x (rowL x l) (fr+i)) (by rw [hsec.len]; decide)
     rw [decide_eq_true rfl] at hsame
     have e7:IntKind.i64.wrap (fr+(i:Int))=fr+i:=zah (by omega) (by omega)
     have e8:IntKind.i64.wrap ((i:Int)+1)=((i+1:Nat):Int):=by rw [zah (by omega) (by omega)]; omega
     have him:(i:Int) < (m:Int):=by omega
     rw [zzp him,zaH,e7,hof,zac,zc7,zuG];dsimp only;rw [zaY,zaY,zcn]
     refine zHU (fun z=>z=((intL l,(x.l,x.d,x.c,PUnit.unit),(y.l,y.d,y.c,PUnit.unit),.h kB 0 0,live.map D.bool,k,Q,fr,(i:Int),(Tag.fresh,uL (zjX x (rowL x l) (fr+i))),(m:Int),(i:Int),PUnit.unit),P0 U 0 idx (Bg j),P1 V idx (Bg j),PUnit.unit)) ?_ ?_
     ·rintro _ rfl
      dsimp only
      rw [zab (by omega),zab (by rw [hlen]; omega),Nat.zero_add,Int.toNat_natCast,zaj hg,zdY,hsame,zac,zcn,Bool.not_true,zat,zaH,e8,zab rfl,zab rfl]
     ·intro jj hjj
      by_cases hin:fr+(i:Int) < x.cap
      ·have hob:(ofP x (fr+i)).2.2=true:=by unfold ofP; rw [if_pos ⟨by omega,hin⟩]
       have hor:(ofP x (fr+i)).2.1=rowG x (fr+i):=by unfold ofP; rw [if_pos ⟨by omega,hin⟩]
       obtain ⟨hfi,c0,c1,hnum⟩:=zt3 (show 0≤fr+(i:Int) by omega) hin
       obtain ⟨_,r0,r1⟩:=zbH.1 hfi;have hnums:=zD7 x (rowG x (fr+i))
       have hnd:zrB x (rowG x (fr+i))=numD x (rowG x (fr+i)) x.width.toNat:=by unfold zrB; rw [if_pos hfi]
       rw [hnd] at hnums;have hdat:=zEi x k1 (rowG x (fr+i)) r0 .lent l
       have hwt:zjX x (rowL x l) (fr+i)=(rowL x l (rowG x (fr+i)).toNat).getD (zds x (fr+i)).toNat []:=by unfold zjX; rw [if_neg (by omega)]
       have hrl:=zsb k1 l (rowG x (fr+i)).toNat;have hrll:=hrl.len
       have hgd0:(rowL x l (rowG x (fr+i)).toNat)[(zds x (fr+i)).toNat]? =some (zjX x (rowL x l) (fr+i)):=by
        rw [hwt,List.getD_eq_getElem?_getD,List.getElem?_eq_getElem (by omega)]; rfl
       have hgd:(pL (fP (rowL x l (rowG x (fr+i)).toNat)))[(zds x (fr+i)).toNat]? =some (.sl .fresh (uL (zjX x (rowL x l) (fr+i)))):=zcW (zvy hgd0);generalize hcol:zds x (fr+i)=col at*;generalize hrow':rowG x (fr+i)=ro at*
       rw [hob,za0,hor,hnums,zac,zbw,zab (by omega),zab rfl,zab rfl,zab rfl]
       have hnl:(numD x ro x.width.toNat).length=x.width.toNat:=zgx ..
       let s3:Nat→(List D×(Int×Int×Int×PUnit)×(Int×Int×Int×PUnit)×D×List D×Int×List D×Int×Int×(Tag×List D)×Int×Int×Int×List D×Int×Int×PUnit)×List (List D)×List (List D)×PUnit:=fun c=>
        ((intL l,(x.l,x.d,x.c,PUnit.unit),(y.l,y.d,y.c,PUnit.unit),.h kB 0 0,live.map D.bool,k,Q,fr,(i:Int),(Tag.fresh,uL (if col < (c:Int) then zjX x (rowL x l) (fr+i) else zen)),ro,(m:Int),(i:Int),numD x ro x.width.toNat,(x.width.toNat:Int),(c:Int),PUnit.unit),P0 U 0 idx (Bg j),P1 V idx (Bg j),PUnit.unit)
       have hs30:s3 0=((intL l,(x.l,x.d,x.c,PUnit.unit),(y.l,y.d,y.c,PUnit.unit),.h kB 0 0,live.map D.bool,k,Q,fr,(i:Int),(Tag.fresh,uL zen),ro,(m:Int),(i:Int),numD x ro x.width.toNat,(x.width.toNat:Int),0,PUnit.unit),P0 U 0 idx (Bg j),P1 V idx (Bg j),PUnit.unit):=by
        simp only [s3]; rw [if_neg (by omega)]; rfl
       rw [hnl,zsf,←hs30]
       refine zck s3 x.width.toNat (by omega) ?_ ?_
       ·intro again4 c hc;dsimp only [s3]
        have hc':(c:Int) < (x.width.toNat:Int):=by omega
        have hgn:(numD x ro x.width.toNat)[c]? =some (.int .i64 (numP x ro c)):=zr6 x ro x.width.toNat (by omega)
        have e9:IntKind.i64.wrap ((c:Int)+1)=((c+1:Nat):Int):=by rw [zah (by omega) (by omega)]; omega
        rw [zzp hc',zab (by omega),zab (by rw [hnl]; omega),Nat.zero_add,Int.toNat_natCast,zaj hgn,zaY,zaH,e7,zJP]
        by_cases hcc:(c:Int)=col
        ·have hnn:numP x ro c=fr+i:=by rw [hcc]; exact hnum
         have hgd':(pL (fP (rowL x l ro.toNat)))[c]? =some (.sl .fresh (uL (zjX x (rowL x l) (fr+i)))):=by rw [show c=col.toNat by omega]; exact hgd
         rw [zIL hnn,hdat,zac,zbw,zab (by omega),zab (by simp; omega),zaj hgd',zdY,zab rfl,zab rfl,zab rfl]
         dsimp only
         rw [zaH,e9,zab rfl,zab rfl,zab rfl,if_pos (show col < ((c+1:Nat):Int) by omega)]
        ·have hnn:¬ numP x ro c=fr+i:=fun q=>hcc (zD9 hfi (by omega) (by omega) c0 c1 (by rw [q,hnum]))
         rw [zIM hnn,zab rfl,zab rfl,zab rfl];dsimp only;rw [zaH,e9,zab rfl,zab rfl,zab rfl]
         by_cases hlt:col < (c:Int)
         ·rw [if_pos hlt,if_pos (by omega)]
         ·rw [if_neg hlt,if_neg (by omega)]
       ·intro again4;dsimp only [s3]
        rw [zx7 (by omega),zab rfl,zab rfl,if_pos (by omega)]
        exact hjj _ rfl
      ·have hob:(ofP x (fr+i)).2.2=false:=by unfold ofP; rw [if_neg (fun q=>hin q.2)]
       have hwz:zjX x (rowL x l) (fr+i)=zen:=by unfold zjX; rw [if_pos (by omega)]
       rw [hob,zat,zab rfl,zab rfl,zsf];refine hjj _ ?_;rw [hwz]
    ·intro again3;dsimp only [s2]
     rw [zx7 (by omega),zab (by omega),zab (by omega),hcut,hcut,hwr,zac]
     dsimp only;rw [zbu,zcv,zcv,zbu,zaY,zhQ rfl,zaH,e6,zab rfl]
   ·intro again2;dsimp only [s]
    rw [hwin,zac,zaY,zx7 (by omega),hww,zac,zcn]
end Wf

