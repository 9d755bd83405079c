/- A part of the proof: lemmas that the law's row leans on. -/
import Derived.Test.YtlbdpbbpoghncaaGreatPe
import Derived.Test.YtlbdpbbpoghncaaGreatPd
set_option linter.all false
namespace Wf
open Go Go.RowKit Go.Proofs
set_option linter.unusedSimpArgs false
set_option linter.unusedVariables false
theorem gf_double (a:Int):zbb [.int .u8 a]=some (.int .u8 (dbl a)):=by
 rw [ztZ];unfold znV dbl
 by_cases h:128≤a
 ·simp [h]
 ·simp [h]
theorem zJG (a b:Int) (h0:0≤b) (h1:b < 256):zfo [.int .u8 a,.int .u8 b]=some (.int .u8 (mul8 a b)):=by
 rw [zAa];unfold zwK
 refine zfG (fun x=>x.1.2.1.toNat) (fun _=>some (D.int .u8 (mul8 a b)))
  (fun x=>∃ (n:Nat) (a' b' o:Int),0≤b'∧b' < 2 ^ n∧n≤8∧mulA n a' b' o=mul8 a b∧x=((a',b',o,PUnit.unit),PUnit.unit)) ?_ ⟨8,a,b,0,h0,h1,Nat.le_refl _,rfl,rfl⟩ (by simp; omega)
 rintro again _ ⟨n,a',b',o,p0,p1,p2,p3,rfl⟩ hag
 dsimp only
 by_cases hb:b' > 0
 ·have hd:decide (b' > 0)=true:=by simp [hb]
  rw [hd,zaJ,zap]
  cases n with
  | zero=>simp at p1; omega
  | succ n=>
   have hdiv:b'.fdiv 2=b' / 2:=Int.fdiv_eq_ediv_of_nonneg _ (by omega)
   have hlt:b' / 2 < 2 ^ n:=by
    have:(2:Int) ^ (n+1)=2 ^ n*2:=Int.pow_succ ..;omega
   by_cases hone:bits .and .u8 b' 1=1
   ·have hbo:(bits .and .u8 b' 1 == 1)=true:=by simp [hone]
    rw [hbo,zaJ,zap,gf_double,zab,zaX,zap,hdiv]
    refine hag _ ⟨n,_,_,_,by omega,hlt,by omega,?_,rfl⟩ (by simp; omega)
    rw [←p3]
    show _=mulA n (dbl a') (b' / 2) (if bits .and .u8 b' 1=1 then xor8 o a' else o)
    rw [if_pos hone]
   ·have hbo:(bits .and .u8 b' 1 == 1)=false:=by simp [hone]
    rw [hbo,zan,gf_double,zab,zaX,zap,hdiv]
    refine hag _ ⟨n,_,_,_,by omega,hlt,by omega,?_,rfl⟩ (by simp; omega)
    rw [←p3]
    show _=mulA n (dbl a') (b' / 2) (if bits .and .u8 b' 1=1 then xor8 o a' else o)
    rw [if_neg hone]
 ·have hd:decide (b' > 0)=false:=by simp [hb]
  have:b'=0:=by omega
  subst this;rw [hd,zan,←p3,zDR]
theorem zGc {a b:List Int} {k:Nat} {x y:Int} (h1:a[k]? =some x) (h2:b[k]? =some y):(List.zipWith xor8 a b).take (k+1)=(List.zipWith xor8 a b).take k++[xor8 x y]:=by
 rw [List.take_add_one];congr 1;simp [List.getElem?_zipWith,h1,h2]
theorem ziL (t t':Tag) (a b:List Int) (ha:a.length < 100000):zaV [.sl t (uL a),.sl t' (uL b)]=some (.sl .own (uL (addL a b))):=by
 rw [zwL,zcH,zcH];unfold zqo addL
 by_cases hl:a.length=b.length
 ·have hb:(((uL a).length:Int) != ((uL b).length:Int))=false:=by simp [hl]
  rw [hb,zan,if_pos hl]
  let st:Nat→(List D×List D×List D×Int×Int×PUnit)×PUnit:=fun k=>((uL b,uL ((List.zipWith xor8 a b).take k),uL a,(a.length:Int),(k:Int),PUnit.unit),PUnit.unit)
  have hst:st 0=((uL b,[],uL a,((uL a).length:Int),0,PUnit.unit),PUnit.unit):=by simp [st,uL]
  rw [←hst];refine zct st a.length ha ?_ ?_
  ·intro again k hk;dsimp only [st];have h1:a[k]? =some a[k]:=List.getElem?_eq_getElem hk
   have h2:b[k]? =some (b[k]'(by omega)):=List.getElem?_eq_getElem (by omega)
   have hd:decide ((k:Int) < (a.length:Int))=true:=by simp; omega
   rw [hd,zaJ,zaa (by omega),zak (by simpa using ziD h1),zaX,zaa (by omega),zak (by simpa using ziD h2),zaX,zap,zaa (by simp; omega),zaa (by rfl),zap,zat (by omega) (by omega),zaa (by simp)]
   rw [zGc h1 h2,←zD0];rfl
  ·intro again;dsimp only [st]
   have hd:decide ((a.length:Int) < (a.length:Int))=false:=by simp
   have ht:(List.zipWith xor8 a b).take a.length=List.zipWith xor8 a b:=List.take_of_length_le (by simp; omega)
   rw [hd,zan,zaa (by rfl),zaa (zhQ _),ht]
 ·have hb:(((uL a).length:Int) != ((uL b).length:Int))=true:=by simp; omega
  rw [hb,zaJ,if_neg hl];rfl
theorem zjM (t:Tag) (a:List Int) (ha:a.length < 100000) {f:Int} (h0:0≤f) (h1:f < 256):zaT [.sl t (uL a),.int .u8 f]=some (.sl .own (uL (a.map (mul8 · f)))):=by
 rw [zs7,zcH];unfold zlW
 let st:Nat→(Int×List D×List D×Int×Int×PUnit)×PUnit:=fun k=>((f,uL ((a.map (mul8 · f)).take k),uL a,(a.length:Int),(k:Int),PUnit.unit),PUnit.unit)
 have hst:st 0=((f,[],uL a,((uL a).length:Int),0,PUnit.unit),PUnit.unit):=by simp [st,uL]
 rw [←hst];refine zct st a.length ha ?_ ?_
 ·intro again k hk;dsimp only [st];have h2:a[k]? =some a[k]:=List.getElem?_eq_getElem hk
  have hd:decide ((k:Int) < (a.length:Int))=true:=by simp; omega
  rw [hd,zaJ,zaa (by omega),zak (by simpa using ziD h2),zaX,zJG _ _ h0 h1,zab,zaX,zaa (by simp; omega),zaa (by rfl),zap,zat (by omega) (by omega),zaa (by simp)]
  have:(a.map (mul8 · f)).take (k+1)=(a.map (mul8 · f)).take k++[mul8 a[k] f]:=by rw [List.take_add_one]; simp [h2]
  rw [this,←zD0];rfl
 ·intro again;dsimp only [st]
  have hd:decide ((a.length:Int) < (a.length:Int))=false:=by simp
  have ht:(a.map (mul8 · f)).take a.length=a.map (mul8 · f):=List.take_of_length_le (by simp)
  rw [hd,zan,zaa (by rfl),zaa (zhQ _),ht]
abbrev Part:=Tag×List Int
def pL (ps:List Part):List D:=ps.map fun x=>.sl x.1 (uL x.2)
def zbN (t:Tag) (l:List Int):Tag:=match t,l with
 | .nil,_=>.nil
 | .nn,[]=>.nn
 | .nul,[]=>.nul
 | _,_=>.lent
theorem zIh (t:Tag) (l:List Int):D.lent (.sl t (uL l))=.sl (zbN t l) (uL l):=by
 have h:=zcH l
 cases l with
 | nil=>cases t<;>rfl
 | cons n l=>
  have e:uL (n::l)=.int .u8 n::uL l:=rfl;rw [e] at h ⊢;cases t<;>simp only [D.lent,h,zbN]<;>simp [D.lentL,D.lent,zcH]
theorem zcV (ps:List Part):D.lentL (pL ps)=pL (ps.map fun x=>(zbN x.1 x.2,x.2)):=by
 unfold pL;rw [zje,List.map_map,List.map_map];apply List.map_congr_left;intro x _;exact zIh x.1 x.2
@[simp] theorem zer (ps:List Part):(pL ps).length=ps.length:=by simp [pL]
theorem zc4 {ps:List Part} {k:Nat} {x:Part} (h:ps[k]? =some x):(pL ps)[k]? =some (.sl x.1 (uL x.2)):=by simp [pL,h]
theorem zEx (ps:List Part) (t:Tag) (l:List Int):pL ps++[.sl t (uL l)]=pL (ps++[(t,l)]):=by simp [pL]
theorem zpH (ps:List Part) (i:Nat) (t:Tag) (l:List Int):(pL ps).set i (.sl t (uL l))=pL (ps.set i (t,l)):=by simp [pL,List.map_set]
def Part.free (x:Part):Bool:=x.1=.fresh || x.1=.full || x.1=.nil
theorem zmd {ps:List Part} (h:∀ x∈ps,x.free=true):(pL ps).all D.free=true:=by
 unfold pL;rw [List.all_map,List.all_eq_true];intro x hx;have:=h x hx;obtain ⟨t,l⟩:=x
 cases t<;>first | (exact zrN l) | (exact absurd this (by simp [Part.free]))
theorem zy5 (k:Nat) (hk:k < 255):za3 [.int .i64 k]=some (.int .u8 (pow8 k)):=by
 rw [zs8];unfold zrQ
 have e1:Int.tmod (k:Int) 255=k:=by rw [Int.tmod_eq_emod_of_nonneg (by omega),Int.emod_eq_of_lt (by omega) (by omega)]
 have e2:Int.tmod ((k:Int)+255) 255=k:=by
  rw [Int.tmod_eq_emod_of_nonneg (by omega),Int.add_emod_right,Int.emod_eq_of_lt (by omega) (by omega)]
 rw [zap,e1,zap,zat (by omega) (by omega),zap,e2]
 refine zct (fun j=>((pow8 j,(k:Int),(j:Int),PUnit.unit),PUnit.unit)) k (by omega) ?_ ?_
 ·intro again j hj;dsimp only
  have hd:decide ((j:Int) < (k:Int))=true:=by simp; omega
  rw [hd,zaJ,gf_double,zab,zaX,zap,zat (by omega) (by omega)]
  rfl
 ·intro again
  have hd:decide ((k:Int) < (k:Int))=false:=by simp
  dsimp only;rw [hd,zan]
theorem zEy (tg:Tag) {ps:List Part} {n:Nat} (hn:n < 100000) (h0:0 < ps.length) (h1:ps.length < 255) (h:∀ x∈ps,x.2.length=n):
  zcf [.sl tg (pL ps)]=some (.sl .own (uL (sumP n (ps.map (·.2))))):=by
 rw [zAb,zcV];unfold zwP
 have hsum:∀ {qs:List Part},0 < qs.length→qs.length < 255→(∀ x∈qs,x.2.length=n)→∀ tg,zb0 [.sl tg (pL qs),.fn ID.synd_P_1 [] []]=some (.sl .own (uL (sumP n (qs.map (·.2))))):=by
  intro qs h0 h1 h tg;rw [zrp,zcV]
  have hl':∀ x∈(qs.map fun x=>(zbN x.1 x.2,x.2)),x.2.length=n:=by
   intro x hx; obtain ⟨y,hy,rfl⟩:=List.mem_map.1 hx; exact h y hy
  have hm:(qs.map fun x=>(zbN x.1 x.2,x.2)).map (·.2)=qs.map (·.2):=by rw [List.map_map]; rfl
  rw [←hm]
  have hlen:(qs.map fun x=>(zbN x.1 x.2,x.2)).length=qs.length:=by simp
  rw [←hlen] at h0 h1
  generalize (qs.map fun x=>(zbN x.1 x.2,x.2))=rs at*
  clear hm hlen h qs;unfold zko
  have hb:(((pL rs).length:Int) == 0)=false:=by simp; intro e; rw [e] at h0; simp at h0
  obtain ⟨x0,hx0⟩:∃ x,rs[0]? =some x:=⟨_,List.getElem?_eq_getElem h0⟩;have hx0l:=hl' x0 (List.mem_of_getElem? hx0)
  rw [hb,zan,zak (zc4 hx0),zdg,zaa (by rfl),zcI,hx0l,zaa (by omega),zaa (by omega),zaa (by simp),Int.toNat_natCast,zsJ]
  have hls:∀ l∈rs.map (·.2),l.length=n:=by intro l hl; obtain ⟨y,hy,rfl⟩:=List.mem_map.1 hl; exact hl' y hy
  let st:Nat→(List D×List D×Int×Int×PUnit)×PUnit:=fun k=>((uL (sumK (fun _=>1) n (rs.map (·.2)) k),pL rs,((pL rs).length:Int),(k:Int),PUnit.unit),PUnit.unit)
  have hst:st 0=((uL (List.replicate n 0),pL rs,((pL rs).length:Int),0,PUnit.unit),PUnit.unit):=rfl;rw [←hst]
  refine zct st rs.length (by omega) ?_ ?_
  ·intro again k hk;dsimp only [st];obtain ⟨x,hx⟩:∃ x,rs[k]? =some x:=⟨_,List.getElem?_eq_getElem hk⟩;have hxl:=hl' x (List.mem_of_getElem? hx)
   have hd:decide ((k:Int) < ((pL rs).length:Int))=true:=by simp; omega
   have hsl:=zmw (f:=fun _=>1) hls (k:=k) (by simp; omega)
   rw [hd,zaJ,zaa (by omega),zak (by simpa using zc4 hx),zdg,zaa (by omega)]
   have hb2:(((uL x.2).length:Int) != ((uL (sumK (fun _=>1) n (rs.map (·.2)) k)).length:Int))=false:=by simp [hxl,hsl]
   have hone:zbL [.int .i64 (k:Int)]=some (.int .u8 1):=by rw [zwM]; rfl
   rw [hb2,zan,hone,zab,zaX,zjM _ _ (by omega) (by omega) (by omega),zab,zbl,zaa (by omega),zaa (by omega),zbW,zbW,ziL _ _ _ _ (by omega),zab,zbl,zap,
    zat (by omega) (by omega),zaa (by rfl)]
   have he:addL (sumK (fun _=>1) n (rs.map (·.2)) k) (x.2.map (mul8 · 1))=sumK (fun _=>1) n (rs.map (·.2)) (k+1):=by
    unfold addL
    rw [if_pos (by simp [hsl,hxl])]
    have:(rs.map (·.2)).getD k []=x.2:=by simp [List.getD_eq_getElem?_getD,hx]
    simp only [sumK,this]
   rw [he];rfl
  ·intro again;dsimp only [st]
   have hd:decide ((rs.length:Int) < ((pL rs).length:Int))=false:=by simp
   rw [hd,zan,zaa (by rfl),zaa (zhQ _)]
   simp [sumP]
 rw [hsum (by simpa using h0) (by simpa using h1) (by intro x hx; obtain ⟨y,hy,rfl⟩:=List.mem_map.1 hx; exact h y hy),zab,zbl,zaa (by rfl),zaa (zhQ _),List.map_map]
 rfl
theorem zEz (tg:Tag) {ps:List Part} {n:Nat} (hn:n < 100000) (h0:0 < ps.length) (h1:ps.length < 255) (h:∀ x∈ps,x.2.length=n):
  zcg [.sl tg (pL ps)]=some (.sl .own (uL (sumQ n (ps.map (·.2))))):=by
 rw [zAc,zcV];unfold zwQ
 have hsum:∀ {qs:List Part},0 < qs.length→qs.length < 255→(∀ x∈qs,x.2.length=n)→∀ tg,zb0 [.sl tg (pL qs),.fn ID.gf_Pow [] []]=some (.sl .own (uL (sumQ n (qs.map (·.2))))):=by
  intro qs h0 h1 h tg;rw [zrq,zcV]
  have hl':∀ x∈(qs.map fun x=>(zbN x.1 x.2,x.2)),x.2.length=n:=by
   intro x hx; obtain ⟨y,hy,rfl⟩:=List.mem_map.1 hx; exact h y hy
  have hm:(qs.map fun x=>(zbN x.1 x.2,x.2)).map (·.2)=qs.map (·.2):=by rw [List.map_map]; rfl
  rw [←hm]
  have hlen:(qs.map fun x=>(zbN x.1 x.2,x.2)).length=qs.length:=by simp
  rw [←hlen] at h0 h1
  generalize (qs.map fun x=>(zbN x.1 x.2,x.2))=rs at*
  clear hm hlen h qs;unfold zkp
  have hb:(((pL rs).length:Int) == 0)=false:=by simp; intro e; rw [e] at h0; simp at h0
  obtain ⟨x0,hx0⟩:∃ x,rs[0]? =some x:=⟨_,List.getElem?_eq_getElem h0⟩;have hx0l:=hl' x0 (List.mem_of_getElem? hx0)
  rw [hb,zan,zak (zc4 hx0),zdg,zaa (by rfl),zcI,hx0l,zaa (by omega),zaa (by omega),zaa (by simp),Int.toNat_natCast,zsJ]
  have hls:∀ l∈rs.map (·.2),l.length=n:=by intro l hl; obtain ⟨y,hy,rfl⟩:=List.mem_map.1 hl; exact hl' y hy
  let st:Nat→(List D×List D×Int×Int×PUnit)×PUnit:=fun k=>((uL (sumK pow8 n (rs.map (·.2)) k),pL rs,((pL rs).length:Int),(k:Int),PUnit.unit),PUnit.unit)
  have hst:st 0=((uL (List.replicate n 0),pL rs,((pL rs).length:Int),0,PUnit.unit),PUnit.unit):=rfl;rw [←hst]
  refine zct st rs.length (by omega) ?_ ?_
  ·intro again k hk;dsimp only [st];obtain ⟨x,hx⟩:∃ x,rs[k]? =some x:=⟨_,List.getElem?_eq_getElem hk⟩;have hxl:=hl' x (List.mem_of_getElem? hx)
   have hd:decide ((k:Int) < ((pL rs).length:Int))=true:=by simp; omega
   have hsl:=zmw (f:=pow8) hls (k:=k) (by simp; omega)
   rw [hd,zaJ,zaa (by omega),zak (by simpa using zc4 hx),zdg,zaa (by omega)]
   have hb2:(((uL x.2).length:Int) != ((uL (sumK pow8 n (rs.map (·.2)) k)).length:Int))=false:=by simp [hxl,hsl]
   have hone:=zy5 k (by omega)
   rw [hb2,zan,hone,zab,zaX,zjM _ _ (by omega) (zjm k).1 (zjm k).2,zab,zbl,zaa (by omega),zaa (by omega),zbW,zbW,ziL _ _ _ _ (by omega),zab,zbl,zap,
    zat (by omega) (by omega),zaa (by rfl)]
   have he:addL (sumK pow8 n (rs.map (·.2)) k) (x.2.map (mul8 · (pow8 k)))=sumK pow8 n (rs.map (·.2)) (k+1):=by
    unfold addL
    rw [if_pos (by simp [hsl,hxl])]
    have:(rs.map (·.2)).getD k []=x.2:=by simp [List.getD_eq_getElem?_getD,hx]
    simp only [sumK,this]
   rw [he];rfl
  ·intro again;dsimp only [st]
   have hd:decide ((rs.length:Int) < ((pL rs).length:Int))=false:=by simp
   rw [hd,zan,zaa (by rfl),zaa (zhQ _)]
   simp [sumQ]
 rw [hsum (by simpa using h0) (by simpa using h1) (by intro x hx; obtain ⟨y,hy,rfl⟩:=List.mem_map.1 hx; exact h y hy),zab,zbl,zaa (by rfl),zaa (zhQ _),List.map_map]
 rfl
end Wf

namespace Wf
open Go Go.RowKit Go.Proofs
set_option linter.unusedSimpArgs false
set_option linter.unusedVariables false
theorem zEA (l:List Int):(intL l).all D.free=true:=by simp [intL,D.free]
theorem zEB (l:List Int) (n:Int):intL l++[.int .i64 n]=intL (l++[n]):=by simp [intL]
def zAs (ls:List (List Int)) (k:Nat):List Int:=((List.range k).filter fun i=>(ls.getD i []).isEmpty).map Int.ofNat
def miss (ls:List (List Int)):List Int:=zAs ls ls.length
theorem zCt (ls:List (List Int)) (k:Nat):zAs ls (k+1)=zAs ls k++if (ls.getD k []).isEmpty then [(k:Int)] else []:=by
 unfold zAs;rw [List.range_succ,List.filter_append,List.map_append];congr 1
 by_cases h:(ls.getD k []).isEmpty=true
 ·rw [if_pos h,List.filter_cons_of_pos (p:=fun i=>(ls.getD i []).isEmpty) h]; rfl
 ·rw [if_neg h,List.filter_cons_of_neg (p:=fun i=>(ls.getD i []).isEmpty) h]; rfl
theorem zEC (ls:List (List Int)) (k:Nat):(zAs ls k).length≤k:=by
 unfold zAs;rw [List.length_map]
 exact Nat.le_trans (List.length_filter_le _ _) (by simp)
theorem zpI (tg:Tag) (ps:List Part) (hn:ps.length < 100000):zbP [.sl tg (pL ps)]=some (.sl .own (intL (miss (ps.map (·.2))))):=by
 rw [zpi,zcV]
 have hm:(ps.map fun x=>(zbN x.1 x.2,x.2)).map (·.2)=ps.map (·.2):=by rw [List.map_map]; rfl
 have hlen:(ps.map fun x=>(zbN x.1 x.2,x.2)).length=ps.length:=by simp
 rw [←hm];rw [←hlen] at hn
 generalize (ps.map fun x=>(zbN x.1 x.2,x.2))=rs at*
 unfold zh6
 let st:Nat→(List D×List D×Int×Int×PUnit)×PUnit:=fun k=>((intL (zAs (rs.map (·.2)) k),pL rs,((pL rs).length:Int),(k:Int),PUnit.unit),PUnit.unit)
 have hst:st 0=(([],pL rs,((pL rs).length:Int),0,PUnit.unit),PUnit.unit):=rfl;rw [←hst]
 refine zct st rs.length (by omega) ?_ ?_
 ·intro again k hk;dsimp only [st];obtain ⟨x,hx⟩:∃ x,rs[k]? =some x:=⟨_,List.getElem?_eq_getElem hk⟩
  have hd:decide ((k:Int) < ((pL rs).length:Int))=true:=by simp; omega
  have hk2:=zEC (rs.map (·.2)) k
  have hgd:(rs.map (·.2)).getD k []=x.2:=by simp [List.getD_eq_getElem?_getD,hx]
  rw [hd,zaJ,zaa (by omega),zak (by simpa using zc4 hx),zdg,zCt,hgd]
  by_cases he:x.2=[]
  ·have hb:(((uL x.2).length:Int) == 0)=true:=by simp [he]
   rw [hb,zaJ,zaa (by rw [zc8]; omega),zaa (by rfl),zap,zat (by omega) (by omega),zaa (by simp),zEB,he]
   rfl
  ·have hb:(((uL x.2).length:Int) == 0)=false:=by simp; omega
   have hb2:x.2.isEmpty=false:=by simp [he]
   rw [hb,zan,zap,zat (by omega) (by omega),zaa (by rfl),hb2]
   simp
 ·intro again;dsimp only [st]
  have hd:decide ((rs.length:Int) < ((pL rs).length:Int))=false:=by simp
  rw [hd,zan,zaa (by rfl),zaa (zEA _)]
  simp [miss]
theorem zKr (t:Tag) (l:List Int) (n:Int):zaO [.sl t (uL l),.at_ (.int .i64 n)]=some (.bool (!fitS n l)):=by
 rw [zql,zcH];unfold ziU fitS
 cases l with
 | nil=>simp
 | cons a l=>
  have hd:decide (((uL (a::l)).length:Int) > 0)=true:=by simp
  rw [hd,zaJ];simp [bne];rfl
theorem zun (tg:Tag) (ps:List Part) (hn:ps.length < 100000) (n:Int):
  ∃ r,zaj [.sl tg (pL ps),.fn ID.erase_fits_1 [] [.at_ (.int .i64 n)]]=some r∧∃ i:Int,r=.int .i64 i∧decide (i≥0)= !(ps.all fun x=>fitS n x.2):=by
 rw [zfe,zcV]
 have hm:(ps.all fun x=>fitS n x.2)=((ps.map fun x=>(zbN x.1 x.2,x.2)).all fun x=>fitS n x.2):=by rw [List.all_map]; rfl
 have hlen:(ps.map fun x=>(zbN x.1 x.2,x.2)).length=ps.length:=by simp
 rw [hm];rw [←hlen] at hn
 generalize (ps.map fun x=>(zbN x.1 x.2,x.2))=rs at*
 unfold zcB
 refine zwi (fun a=>(rs.length:Nat) - a.1.2.2.2.1.toNat) (fun r=>∃ i:Int,r=D.int .i64 i∧decide (i≥0)= !(rs.all fun x=>fitS n x.2))
  (fun a=>∃ k:Nat,k≤rs.length∧((rs.take k).all fun x=>fitS n x.2)=true∧a=((pL rs,n,(rs.length:Int),(k:Int),PUnit.unit),PUnit.unit)) ?_ ⟨0,by omega,by simp,by rw [zer]; rfl⟩ (by simp; omega)
 rintro again _ ⟨k,hk,he,rfl⟩ hag
 dsimp only
 by_cases hkm:k < rs.length
 ·obtain ⟨x,hx⟩:∃ x,rs[k]? =some x:=⟨_,List.getElem?_eq_getElem hkm⟩
  have hd:decide ((k:Int) < (rs.length:Int))=true:=by simp; omega
  rw [hd,zaJ,zaa (by omega),zak (by simpa using zc4 hx),zdg,zKr,zab,zbe]
  cases hf:fitS n x.2
  ·refine ⟨_,rfl,_,rfl,?_⟩
   have:(rs.all fun x=>fitS n x.2)=false:=by
    rw [List.all_eq_false]
    exact ⟨x,List.mem_of_getElem? hx,by simp [hf]⟩
   rw [this];simp
  ·simp only [Bool.not_true,zan,zap]
   rw [zat (by omega) (by omega)]
   refine hag _ ⟨k+1,by omega,?_,rfl⟩ (by simp; omega)
   rw [List.take_add_one,hx,List.all_append,he];simp [hf]
 ·have hd:decide ((k:Int) < (rs.length:Int))=false:=by simp; omega
  rw [hd,zan];refine ⟨_,rfl,_,rfl,?_⟩
  rw [List.take_of_length_le (by omega)] at he
  rw [he];rfl
theorem erase_fits (tg:Tag) (ps:List Part) (hn:ps.length < 100000) (n:Int):zcs [.int .i64 n,.sl tg (pL ps)]=some (.bool (ps.all fun x=>fitS n x.2)):=by
 rw [zs5,zcV]
 have hm:(ps.all fun x=>fitS n x.2)=((ps.map fun x=>(zbN x.1 x.2,x.2)).all fun x=>fitS n x.2):=by rw [List.all_map]; rfl
 have hlen:(ps.map fun x=>(zbN x.1 x.2,x.2)).length=ps.length:=by simp
 rw [hm];rw [←hlen] at hn
 generalize (ps.map fun x=>(zbN x.1 x.2,x.2))=rs at*
 unfold zlV
 have:zah [.sl .lent (pL rs),.fn ID.erase_fits_1 [] [.at_ (.int .i64 n)]]=some (.bool (!(rs.all fun x=>fitS n x.2))):=by
  rw [zeD,zcV]
  have hm:(rs.all fun x=>fitS n x.2)=((rs.map fun x=>(zbN x.1 x.2,x.2)).all fun x=>fitS n x.2):=by rw [List.all_map]; rfl
  have hlen:(rs.map fun x=>(zbN x.1 x.2,x.2)).length=rs.length:=by simp
  rw [hm];rw [←hlen] at hn
  generalize (rs.map fun x=>(zbN x.1 x.2,x.2))=qs at*
  unfold zcr;obtain ⟨r,h1,i,rfl,h2⟩:=zun .lent qs hn n;rw [h1,zab,zaX,h2]
 rw [this,zab,zbe,Bool.not_not]
theorem zIi {l:List D} {n:Nat} (h:l.length=n):cut 0 n l=l:=by subst h; exact zbW l
theorem erase_filled (n:Nat) (hn0:n < 100000) (tg:Tag) (ps:List Part) (hn:ps.length < 100000):zb6 [.int .i64 n,.sl tg (pL ps)]=some (.sl .own (pL (ps.map fun x=>(Tag.fresh,zkP n x.2)))):=by
 rw [zqn,zcV]
 have hm:(ps.map fun x=>(Tag.fresh,zkP n x.2))=((ps.map fun x=>(zbN x.1 x.2,x.2)).map fun x=>(Tag.fresh,zkP n x.2)):=by rw [List.map_map]; rfl
 have hlen:(ps.map fun x=>(zbN x.1 x.2,x.2)).length=ps.length:=by simp
 rw [hm];rw [←hlen] at hn
 generalize (ps.map fun x=>(zbN x.1 x.2,x.2))=rs at*
 unfold ziV
 let st:Nat→(Int×List D×List D×Int×Int×PUnit)×PUnit:=fun k=>(((n:Int),pL ((rs.take k).map fun x=>(Tag.fresh,zkP n x.2)),pL rs,((pL rs).length:Int),(k:Int),PUnit.unit),PUnit.unit)
 have hst:st 0=(((n:Int),[],pL rs,((pL rs).length:Int),0,PUnit.unit),PUnit.unit):=rfl;rw [←hst]
 refine zct st rs.length (by omega) ?_ ?_
 ·intro again k hk;dsimp only [st];obtain ⟨x,hx⟩:∃ x,rs[k]? =some x:=⟨_,List.getElem?_eq_getElem hk⟩
  have hd:decide ((k:Int) < ((pL rs).length:Int))=true:=by simp; omega
  have hfill:([]++List.take (Int.toNat (n:Int)) (uL x.2)++List.drop ((0:Nat)+List.length (List.take (Int.toNat (n:Int)) (uL x.2))) (List.replicate (Int.toNat (n:Int)) (D.int IntKind.u8 (0:Int))))=uL (zkP n x.2):=by
   rw [Int.toNat_natCast,zwu,zsJ,zzZ,Nat.zero_add,zcI,List.nil_append,←zDZ]; rfl
  rw [hd,zaJ,zaa (by omega),zak (by simpa using zc4 hx),zdg,zaa (by omega),zaa (by rfl),zaa (by omega),zaa (by omega),zaa (by simp),zaa (zBf _),hfill,zaa (by simp [zjo]),zaa (by simp; omega),zaa (by rfl),
   zap,zat (by omega) (by omega),zaa (by simp),zIi (by simp [zjo]),zEx]
  have:(rs.take (k+1)).map (fun x=>(Tag.fresh,zkP n x.2))=(rs.take k).map (fun x=>(Tag.fresh,zkP n x.2))++[(Tag.fresh,zkP n x.2)]:=by rw [List.take_add_one,hx]; simp
  rw [this];rfl
 ·intro again;dsimp only [st]
  have hd:decide ((rs.length:Int) < ((pL rs).length:Int))=false:=by simp
  rw [hd,zan,zaa (by rfl),List.take_length,zaa (zmd (by intro x hx; obtain ⟨y,hy,rfl⟩:=List.mem_map.1 hx; rfl))]
def fP (ls:List (List Int)):List Part:=ls.map fun l=>(Tag.fresh,l)
@[simp] theorem zhm (ls:List (List Int)):(fP ls).length=ls.length:=by simp [fP]
theorem zpJ (ls:List (List Int)):(fP ls).map (·.2)=ls:=by
 unfold fP;rw [List.map_map];exact List.map_id ls
theorem zgF (ls:List (List Int)):(pL (fP ls)).all D.free=true:=zmd (by intro x hx; obtain ⟨y,_,rfl⟩:=List.mem_map.1 hx; rfl)
theorem zJH (ls:List (List Int)) (i:Nat) (l:List Int):(fP ls).set i (Tag.fresh,l)=fP (ls.set i l):=by simp [fP,List.map_set]
theorem zBr {ls:List (List Int)} {k:Nat} {l:List Int} (h:ls[k]? =some l):(fP ls)[k]? =some (Tag.fresh,l):=by simp [fP,h]
theorem zGd (ps:List Part):(ps.map fun x=>(Tag.fresh,zkP 32 x.2))=fP (zcS (ps.map (·.2))):=by simp [fP,zcS]
theorem zGe (ls:List (List Int)):miss ls=(zdS ls).map Int.ofNat:=rfl
theorem zCu (k:Nat) (hk:k < 100000):za3 [.int .i64 k]=some (.int .u8 (pow8 (k % 255))):=by
 have h:=zy5 (k % 255) (Nat.mod_lt _ (by omega))
 rw [zs8] at h ⊢;unfold zrQ at h ⊢
 have e1:Int.tmod (k:Int) 255=((k % 255:Nat):Int):=by rw [Int.tmod_eq_emod_of_nonneg (by omega)]; omega
 have e2:Int.tmod ((k % 255:Nat):Int) 255=((k % 255:Nat):Int):=by rw [Int.tmod_eq_emod_of_nonneg (by omega)]; omega
 rw [e1];rw [e2] at h;exact h
theorem zJI {a:Nat} (ha:a < 256):zfp [.int .u8 a]=some (.int .i64 (if logN a=255 then -1 else (logN a:Int))):=by
 rw [zAe];unfold zwR
 refine zfG (a:=(((a:Int),(1:Int),(0:Int),PUnit.unit),PUnit.unit)) (fun x=>(255 - x.1.2.2.1).toNat) (fun x=>some (D.int .i64 (if logF a (255 - x.1.2.2.1.toNat) x.1.2.1.toNat x.1.2.2.1.toNat=255 then -1 else (logF a (255 - x.1.2.2.1.toNat) x.1.2.1.toNat x.1.2.2.1.toNat:Int))))
  (fun x=>∃ n y:Nat,n≤255∧y < 256∧x=(((a:Int),(y:Int),(n:Int),PUnit.unit),PUnit.unit)) ?_ ⟨0,1,by omega,by omega,rfl⟩ (by simp)
 rintro again _ ⟨n,y,hn,hy,rfl⟩ hag
 dsimp only;rw [Int.toNat_natCast,Int.toNat_natCast]
 by_cases h:n < 255
 ·have e:255 - n=(255 - (n+1))+1:=by omega
  have hd:decide ((n:Int) < 255)=true:=by simp; omega
  rw [hd,zaJ,e]
  by_cases hya:y=a
  ·subst hya
   have:logF y (255 - (n+1)+1) y n=n:=by unfold logF; rw [if_pos rfl]
   rw [this,if_neg (by omega)]
   simp
  ·have hb:((y:Int) == (a:Int))=false:=by simp; omega
   have:logF a (255 - (n+1)+1) y n=logF a (255 - (n+1)) (dblN y) (n+1):=by rw [logF,if_neg hya]
   have hh:=hag (((a:Int),((dblN y:Nat):Int),((n+1:Nat):Int),PUnit.unit),PUnit.unit) ⟨n+1,dblN y,by omega,zlr hy,rfl⟩ (by dsimp only; omega)
   dsimp only at hh;rw [Int.toNat_natCast,Int.toNat_natCast] at hh
   rw [hb,zan,gf_double,zab,zaX,zap,zat (by omega) (by omega),zzT hy,this]
   exact hh
 ·have:n=255:=by omega
  subst this;simp [logF]
theorem zG6 {a:Int} (ha:Byt a):zdb [.int .u8 a]=some (.int .u8 (inv8 a)):=by
 obtain ⟨m,hm,rfl⟩:=zfs ha;rw [zAf];unfold zwS inv8 invN;rw [Int.toNat_natCast]
 by_cases h0:m=0
 ·subst h0; simp
 ·obtain ⟨h1,h2⟩:=zHY m hm h0
  have hb:((m:Int) == 0)=false:=by simp; omega
  rw [hb,zan,zJI hm,zab,zaX,if_neg (by omega),if_neg h0,zap,zat (by omega) (by omega),show (255:Int) - (logN m:Int)=((255 - logN m:Nat):Int) by omega,zCu _ (by omega),zab,zaX,zmv]
section
variable {ps:List Part} (h1:0 < ps.length) (h8:ps.length≤8) (hs:∀ x∈ps,x.2.length=32)
include h1 h8 hs
theorem by_q (tq tg:Tag) {q:List Int} (hq:q.length=32) {k:Nat} (hk:k < 8):
  zcT [.sl tq (uL q),.sl tg (pL ps),.int .i64 k]=some (.sl .own (uL (byQ q (ps.map (·.2)) k))):=by
 rw [zt6,zcH,zcV]
 have hm:(ps.map fun x=>(zbN x.1 x.2,x.2)).map (·.2)=ps.map (·.2):=by rw [List.map_map]; rfl
 have hlen:(ps.map fun x=>(zbN x.1 x.2,x.2)).length=ps.length:=by simp
 have hs':∀ x∈(ps.map fun x=>(zbN x.1 x.2,x.2)),x.2.length=32:=by intro x hx; obtain ⟨y,hy,rfl⟩:=List.mem_map.1 hx; exact hs y hy
 rw [←hm];rw [←hlen] at h1 h8
 generalize (ps.map fun x=>(zbN x.1 x.2,x.2))=rs at*
 unfold znZ
 have hQ:=zEz (n:=32) .lent (ps:=rs) (by omega) h1 (by omega) hs'
 have hr:Byt (inv8 (pow8 k)):=zBe _
 have ha:(addL q (sumQ 32 (rs.map (·.2)))).length < 100000:=by unfold addL; split<;>simp<;>omega
 simp (disch:=first | omega | assumption | (simp; done) | fail) [-List.all_eq_true,hQ,ziL _ _ _ _ (show q.length < 100000 by omega),zy5 k (by omega),zG6 (zBc k),zjM _ _ ha hr.1 hr.2]
 rfl
theorem zJJ (tp tq tg:Tag) {p q:List Int} (hp:p.length=32) (hq:q.length=32) {j k:Nat} (hj:j < 8) (hk:k < 8):
  zdi [.sl tp (uL p),.sl tq (uL q),.sl tg (pL ps),.int .i64 j,.int .i64 k]=some (.tup [.sl .own (uL (twoX p q (ps.map (·.2)) j k)),.sl .own (uL (twoY p q (ps.map (·.2)) j k))]):=by
 rw [zt4,zcH,zcH,zcV]
 have hm:(ps.map fun x=>(zbN x.1 x.2,x.2)).map (·.2)=ps.map (·.2):=by rw [List.map_map]; rfl
 have hlen:(ps.map fun x=>(zbN x.1 x.2,x.2)).length=ps.length:=by simp
 have hs':∀ x∈(ps.map fun x=>(zbN x.1 x.2,x.2)),x.2.length=32:=by intro x hx; obtain ⟨y,hy,rfl⟩:=List.mem_map.1 hx; exact hs y hy
 rw [←hm];rw [←hlen] at h1 h8
 generalize (ps.map fun x=>(zbN x.1 x.2,x.2))=rs at*
 unfold znY
 have hQ:=zEz (n:=32) .lent (ps:=rs) (by omega) h1 (by omega) hs'
 have hP:=zEy (n:=32) .lent (ps:=rs) (by omega) h1 (by omega) hs'
 have hr:Byt (inv8 (xor8 (pow8 j) (pow8 k))):=zBe _
 have addl:∀ {a b:List Int},a.length≤32→(addL a b).length≤32:=by intro a b h; unfold addL; split<;>simp<;>omega
 have h2:(addL p (sumP 32 (rs.map (·.2)))).length≤32:=addl (by omega)
 have h3:(addL q (sumQ 32 (rs.map (·.2)))).length≤32:=addl (by omega)
 have h4:(addL (addL q (sumQ 32 (rs.map (·.2)))) ((addL p (sumP 32 (rs.map (·.2)))).map (mul8 · (pow8 k)))).length≤32:=addl h3
 simp (disch:=first | omega | assumption | (simp; done) | fail) [-List.all_eq_true,hQ,hP,ziL _ _ _ _ (show q.length < 100000 by omega),ziL _ _ _ _ (show p.length < 100000 by omega),zy5 j (by omega),zy5 k (by omega),zG6 (zoP _ _),
  zjM _ _ (show (addL p (sumP 32 (rs.map (·.2)))).length < 100000 by omega) (zjm k).1 (zjm k).2,ziL _ _ _ _ (show (addL q (sumQ 32 (rs.map (·.2)))).length < 100000 by omega),ziL _ _ _ _ (show (addL p (sumP 32 (rs.map (·.2)))).length < 100000 by omega),
  zjM _ _ (show (addL (addL q (sumQ 32 (rs.map (·.2)))) ((addL p (sumP 32 (rs.map (·.2)))).map (mul8 · (pow8 k)))).length < 100000 by omega) hr.1 hr.2]
 exact ⟨rfl,rfl⟩
end
end Wf

namespace Wf
open Go Go.RowKit Go.Proofs
set_option linter.unusedSimpArgs false
set_option linter.unusedVariables false
set_option maxHeartbeats 4000000
def solD:Option (List (List Int))→D
 | none=>.tup [.sl .own [],.bool false]
 | some o=>.tup [.sl .own (pL (fP o)),.bool true]
theorem pLs (ls:List (List Int)) (i:Nat) (l:List Int):(pL (fP ls)).set i (.sl .fresh (uL l))=pL (fP (ls.set i l)):=by rw [zpH,zJH]
theorem ztw {ls:List (List Int)} {i:Nat} (h:i < ls.length):(pL (fP ls))[i]? =some (.sl .fresh (uL (ls.getD i []))):=by
 have e:ls[i]? =some (ls.getD i []):=by rw [List.getD_eq_getElem?_getD,List.getElem?_eq_getElem h]; rfl
 exact zc4 (zBr e)
theorem zGf (tp tq tg:Tag) (p q:List Int) {ps:List Part} (hn:ps.length < 100000):
  zcm [.int .i64 32,.sl tp (uL p),.sl tq (uL q),.sl tg (pL ps)]=some (solD (zlv p q (ps.map (·.2)))):=by
 rw [zrs,zcH,zcH,zcV]
 have hm:(ps.map fun x=>(zbN x.1 x.2,x.2)).map (·.2)=ps.map (·.2):=by rw [List.map_map]; rfl
 have hlen:(ps.map fun x=>(zbN x.1 x.2,x.2)).length=ps.length:=by simp
 rw [←hm];rw [←hlen] at hn
 generalize (ps.map fun x=>(zbN x.1 x.2,x.2))=rs at*
 clear hm hlen ps;unfold zkq zlv;have hmi:=zpI .lent rs hn;rw [zGe] at hmi
 have hpq:zbP [.sl .full [.sl .lent (uL p),.sl .lent (uL q)]]=some (.sl .own (intL ((zdS [p,q]).map Int.ofNat))):=zpI .full [(Tag.lent,p),(Tag.lent,q)] (by simp)
 have hfi:=erase_fits .lent rs hn 32
 have hfa:(rs.all fun x=>fitS 32 x.2)=(rs.map (·.2)).all (fitS 32):=by rw [List.all_map]; rfl
 rw [hfa] at hfi
 have hfpq:zcs [.int .i64 32,.sl .full [.sl .lent (uL p),.sl .lent (uL q)]]=some (.bool ([p,q].all (fitS 32))):=erase_fits .full [(Tag.lent,p),(Tag.lent,q)] (by simp) 32
 have hfl:zb6 [.int .i64 32,.sl .lent (pL rs)]=some (.sl .own (pL (fP (zcS (rs.map (·.2)))))):=by
  have:=erase_filled 32 (by omega) .lent rs hn
  rw [zGd] at this;exact this
 have hl:(rs.map (·.2)).length=rs.length:=by simp
 generalize hls:rs.map (·.2)=ls at*
 have hfill:(zcS ls).length=rs.length:=by rw [zdw,hl]
 by_cases c1:rs.length < 1
 ·rw [if_pos (.inl (by omega))]
  simp (disch:=first | omega | assumption | (simp; done) | fail) [-List.all_eq_true,hmi,c1,solD]
 by_cases c2:8 < rs.length
 ·rw [if_pos (.inr (.inl (by omega)))]
  simp (disch:=first | omega | assumption | (simp; done) | fail) [-List.all_eq_true,hmi,c1,c2,solD]
 cases c3:ls.all (fitS 32)
 ·rw [if_pos (.inr (.inr (.inl rfl)))]
  simp (disch:=first | omega | assumption | (simp; done) | fail) [-List.all_eq_true,hmi,c1,c2,hfi,c3,solD]
 cases c4:[p,q].all (fitS 32)
 ·rw [if_pos (.inr (.inr (.inr rfl)))]
  simp (disch:=first | omega | assumption | (simp; done) | fail) [-List.all_eq_true,-List.all_cons,hmi,c1,c2,hfi,c3,hfpq,c4,solD]
 rw [if_neg (by rintro (e | e | e | e)<;>first | omega | cases e)]
 have hml:(zdS ls).length≤8:=by
  have:(zdS ls).length≤ls.length:=by unfold zdS; exact Nat.le_trans (List.length_filter_le _ _) (by simp)
  omega
 have hml2:=zwr p q
 have hml3:(zdS [p,q]).length≤2:=by rw [hml2]; split<;>split<;>omega
 by_cases c5:2 < (zdS ls).length+(zdS [p,q]).length
 ·rw [if_pos c5]
  simp (disch:=first | omega | assumption | (simp; done) | fail) [-List.all_eq_true,-List.all_cons,hmi,c1,c2,hfi,c3,hfpq,c4,hpq,zc8,zat,solD]
 rw [if_neg c5];rcases hmm:zdS ls with _ | ⟨j,_ | ⟨k,_ | ⟨m,t⟩⟩⟩
 ·rw [hmm] at c5 hmi
  simp (disch:=first | omega | assumption | (simp; done) | fail) [-List.all_eq_true,-List.all_cons,hmi,c1,c2,hfi,c3,hfpq,c4,hpq,zc8,zat,solD,hfl,zgF]
 ·have hj:=ze0.1 (show j∈zdS ls by rw [hmm]; simp)
  rw [hmm] at c5 hmi;have hi1:intL [(j:Int)]=[.int .i64 j]:=rfl
  have c6:¬ 2 < 1+((zdS [p,q]).length:Int):=by simp at c5; omega
  have hg:=ztw (ls:=zcS ls) (i:=j) (by omega)
  dsimp only
  by_cases hp:0 < p.length
  ·rw [if_pos hp]
   have hP:=zEy (n:=32) .lent (ps:=fP (zcS ls)) (by omega) (by simp; omega) (by simp; omega) (by intro x hx; obtain ⟨l,hl,rfl⟩:=List.mem_map.1 hx; unfold zcS at hl; obtain ⟨y,_,rfl⟩:=List.mem_map.1 hl; exact zjo 32 y)
   rw [zpJ] at hP
   have hpl:p.length=32:=by
    simp [fitS] at c4;rcases c4.1 with e | e
    ·rw [e] at hp; cases hp
    ·omega
   simp (disch:=first | omega | assumption | (simp; done) | fail) [-List.all_eq_true,-List.all_cons,hmi,c1,c2,hfi,c3,hfpq,c4,hpq,zc8,hi1,zat,solD,hfl,hP,hp,ziL,zak hg,pLs,zgF,hfill,c6,D.isAgg]
  ·rw [if_neg hp]
   have hq:q.length=32:=by
    have hp0:p=[]:=by cases p; rfl; simp at hp
    have hq0:¬ q=[]:=by intro e; rw [hml2,if_pos hp0,if_pos e] at c5; simp at c5
    simp [fitS] at c4;rcases c4.2 with e | e
    ·exact absurd e hq0
    ·omega
   have hQ:=by_q (ps:=fP (zcS ls)) (by simp; omega) (by simp; omega) (by intro x hx; obtain ⟨l,hl,rfl⟩:=List.mem_map.1 hx; unfold zcS at hl; obtain ⟨y,_,rfl⟩:=List.mem_map.1 hl; exact zjo 32 y) .lent .lent hq (k:=j) (by omega)
   rw [zpJ] at hQ
   simp (disch:=first | omega | assumption | (simp; done) | fail) [-List.all_eq_true,-List.all_cons,hmi,c1,c2,hfi,c3,hfpq,c4,hpq,zc8,hi1,zat,solD,hfl,hQ,hp,zak hg,pLs,zgF,hfill,c6,D.isAgg]
 ·have hj:=ze0.1 (show j∈zdS ls by rw [hmm]; simp)
  have hk:=ze0.1 (show k∈zdS ls by rw [hmm]; simp)
  have hjk:j < k:=by have:=znz ls; rw [hmm] at this; simpa using this
  rw [hmm] at c5 hmi;have hi1:intL [(j:Int),(k:Int)]=[.int .i64 j,.int .i64 k]:=rfl
  have c6:¬ 2 < 2+((zdS [p,q]).length:Int):=by simp at c5; simp [c5]
  have hp0:¬ p=[]:=by intro e; rw [hml2,if_pos e] at c5; simp at c5
  have hq0:¬ q=[]:=by intro e; rw [hml2,if_pos e] at c5; simp at c5
  have hpl:p.length=32∧q.length=32:=by
   simp [fitS] at c4
   exact ⟨by rcases c4.1 with e | e; exact absurd e hp0; omega,by rcases c4.2 with e | e; exact absurd e hq0; omega⟩
  have hT:=zJJ (ps:=fP (zcS ls)) (by simp; omega) (by simp; omega) (by intro x hx; obtain ⟨l,hl,rfl⟩:=List.mem_map.1 hx; unfold zcS at hl; obtain ⟨y,_,rfl⟩:=List.mem_map.1 hl; exact zjo 32 y) .lent .lent .lent hpl.1 hpl.2 (j:=j) (k:=k) (by omega) (by omega)
  rw [zpJ] at hT
  have hg:=ztw (ls:=zcS ls) (i:=j) (by omega)
  have hg2:=ztw (ls:=(zcS ls).set j (twoX p q (zcS ls) j k)) (i:=k) (by simp; omega)
  dsimp only
  simp (disch:=first | omega | assumption | (simp; done) | fail) [-List.all_eq_true,-List.all_cons,hmi,c1,c2,hfi,c3,hfpq,c4,hpq,zc8,hi1,zat,solD,hfl,hT,zak hg,zak hg2,pLs,zgF,hfill,c6,D.isAgg]
 ·rw [hmm] at c5; simp at c5; omega
end Wf

namespace Wf
open Go Go.RowKit Go.Proofs
set_option linter.unusedSimpArgs false
set_option linter.unusedVariables false
def zqF (b:Int) (k:Nat) (s:Int×Int):Int×Int:=
  (if IntKind.i64.wrap (s.1*2) > 255 then bits .xor .i64 (IntKind.i64.wrap (s.1*2)) 285 else IntKind.i64.wrap (s.1*2),
   if bits .and .u8 (b.fdiv (2 ^ min k 8)) 1=1 then bits .xor .i64 s.2 s.1 else s.2)
def zfh (a b:Int):Nat→Int×Int
 | 0=>(IntKind.i64.wrap a,0)
 | k+1=>zqF b k (zfh a b k)
def zfL (a b:Int):Int:=IntKind.u8.wrap (zfh a b 8).2
theorem zED (a b:Int):zaY [.int .u8 a,.int .u8 b]=some (.int .u8 (zfL a b)):=by
 rw [zmN];unfold zgw;rw [zap]
 refine zct (fun k=>((b,(zfh a b k).1,(zfh a b k).2,(k:Int),PUnit.unit),PUnit.unit)) 8 (by omega) ?_ ?_
 ·intro again k hk;dsimp only
  have hd:decide ((k:Int) < 8)=true:=by simp; omega
  rw [hd,zaJ,zap,zFF (by omega) (by omega),zaa (by omega),zap,zap,Int.toNat_natCast]
  have hs:zfh a b (k+1)=zqF b k (zfh a b k):=rfl
  have hk1:IntKind.i64.wrap ((k:Int)+1)=((k+1:Nat):Int):=by rw [zat (by omega) (by omega)]; rfl
  rw [hs];unfold zqF
  by_cases hb:bits .and .u8 (b.fdiv (2 ^ min k 8)) 1=1
  ·have hb':(bits .and .u8 (b.fdiv (2 ^ min k 8)) 1 == 1)=true:=by simp [hb]
   rw [hb',zaJ,zap,zap,if_pos hb]
   by_cases hx:IntKind.i64.wrap ((zfh a b k).1*2) > 255
   ·have hx':decide (IntKind.i64.wrap ((zfh a b k).1*2) > 255)=true:=by simp [hx]
    rw [hx',zaJ,zap,zap,hk1,if_pos hx]
   ·have hx':decide (IntKind.i64.wrap ((zfh a b k).1*2) > 255)=false:=by simp; omega
    rw [hx',zan,zap,hk1,if_neg hx]
  ·have hb':(bits .and .u8 (b.fdiv (2 ^ min k 8)) 1 == 1)=false:=by simp [hb]
   rw [hb',zan,zap,if_neg hb]
   by_cases hx:IntKind.i64.wrap ((zfh a b k).1*2) > 255
   ·have hx':decide (IntKind.i64.wrap ((zfh a b k).1*2) > 255)=true:=by simp [hx]
    rw [hx',zaJ,zap,zap,hk1,if_pos hx]
   ·have hx':decide (IntKind.i64.wrap ((zfh a b k).1*2) > 255)=false:=by simp; omega
    rw [hx',zan,zap,hk1,if_neg hx]
 ·intro again;dsimp only
  have hd:decide (((8:Nat):Int) < 8)=false:=by simp
  rw [hd,zan,zap];rfl
def zeR:Nat→Int
 | 0=>1
 | k+1=>zfL (zeR k) 2
theorem zIj (k:Nat) (hk:k < 255):zbJ [.int .i64 k]=some (.int .u8 (zeR k)):=by
 rw [zmP];unfold zgx
 have e1:Int.tmod (k:Int) 255=k:=by rw [Int.tmod_eq_emod_of_nonneg (by omega),Int.emod_eq_of_lt (by omega) (by omega)]
 have hd:decide ((k:Int) < 0)=false:=by simp
 rw [zap,e1,hd,zan]
 let st:Nat→(Int×Int×PUnit)×PUnit:=fun j=>(((k:Int) - (j:Int),zeR j,PUnit.unit),PUnit.unit)
 have hst:st 0=(((k:Int),1,PUnit.unit),PUnit.unit):=by simp [st,zeR]
 rw [←hst]
 refine zct st k (by omega) ?_ ?_
 ·intro again j hj;dsimp only [st]
  have hd:decide ((k:Int) - (j:Int) > 0)=true:=by simp; omega
  rw [hd,zaJ,zED,zab,zaX,zap,zat (by omega) (by omega)]
  have:(k:Int) - (j:Int) - 1=(k:Int) - ((j+1:Nat):Int):=by omega
  rw [this];rfl
 ·intro again;dsimp only [st]
  have hd:decide ((k:Int) - (k:Int) > 0)=false:=by simp
  rw [hd,zan]
def mixL (f:Int→Int→Int) (acc p:List Int) (j:Nat):List Int:=(List.zipWith f acc p).take j++acc.drop j
theorem zBs {f:Int→Int→Int} {acc p:List Int} (h:p.length=acc.length) {j:Nat} (hj:j≤acc.length):(mixL f acc p j).length=acc.length:=by
 unfold mixL; simp [h]; omega
theorem zBt {f:Int→Int→Int} {acc p:List Int} (h:p.length=acc.length) {j:Nat} (hj:j < acc.length):(mixL f acc p j)[j]? =some acc[j]:=by
 unfold mixL
 rw [List.getElem?_append_right (by simp; omega)]
 simp [h]
 rw [show j - min j acc.length=0 by omega]
 simp [hj]
theorem zBu {f:Int→Int→Int} {acc p:List Int} (h:p.length=acc.length) {j:Nat} (hj:j < acc.length):(mixL f acc p j).set j (f acc[j] (p[j]'(by omega)))=mixL f acc p (j+1):=by
 unfold mixL
 have hl:((List.zipWith f acc p).take j).length=j:=by simp [h]; omega
 rw [List.set_append_right _ _ (by omega),hl,Nat.sub_self,List.take_add_one,List.drop_eq_getElem_cons hj,List.set_cons_zero]
 simp [List.getElem?_zipWith,hj,h]
theorem zBv {f:Int→Int→Int} {acc p:List Int} (h:p.length=acc.length):mixL f acc p acc.length=List.zipWith f acc p:=by
 unfold mixL
 rw [List.drop_of_length_le (Nat.le_refl _),List.append_nil,List.take_of_length_le (by simp; omega)]
theorem zy6 (f:Int→Int→Int) (acc p:List Int):mixL f acc p 0=acc:=by simp [mixL]
def sumR (F:Nat→Int→Int) (n:Nat) (ls:List (List Int)):Nat→List Int
 | 0=>List.replicate n 0
 | k+1=>List.zipWith (fun a x=>xor8 a (F k x)) (sumR F n ls k) (ls.getD k [])
theorem zxf {F:Nat→Int→Int} {n:Nat} {ls:List (List Int)} (h:∀ l∈ls,l.length=n):∀ {k:Nat},k≤ls.length→(sumR F n ls k).length=n
 | 0,_=>by simp [sumR]
 | k+1,hk=>by
  have e:ls.getD k []=ls[k]:=by simp [List.getD_eq_getElem?_getD,List.getElem?_eq_getElem (show k < ls.length by omega)]
  simp only [sumR,List.length_zipWith,e,zxf h (show k≤ls.length by omega),h _ (List.getElem_mem (show k < ls.length by omega))]
  omega
def refP (n:Nat) (ls:List (List Int)):List Int:=sumR (fun _ x=>x) n ls ls.length
def refQ (n:Nat) (ls:List (List Int)):List Int:=sumR (fun k x=>zfL x (zeR k)) n ls ls.length
theorem zy7 (tg:Tag) {ps:List Part} {n:Nat} (h0:0 < ps.length) (h1:ps.length < 100000) (h:∀ x∈ps,x.2.length=n):zaR [.sl tg (pL ps)]=some (.bool true):=by
 rw [zkW,zcV]
 have hlen:(ps.map fun x=>(zbN x.1 x.2,x.2)).length=ps.length:=by simp
 have hl':∀ x∈(ps.map fun x=>(zbN x.1 x.2,x.2)),x.2.length=n:=by intro x hx; obtain ⟨y,hy,rfl⟩:=List.mem_map.1 hx; exact h y hy
 rw [←hlen] at h0 h1
 generalize (ps.map fun x=>(zbN x.1 x.2,x.2))=rs at*
 unfold zfy;obtain ⟨x0,hx0⟩:∃ x,rs[0]? =some x:=⟨_,List.getElem?_eq_getElem h0⟩
 refine zct (fun k=>((pL rs,pL rs,((pL rs).length:Int),(k:Int),PUnit.unit),PUnit.unit)) rs.length h1 ?_ ?_
 ·intro again k hk;dsimp only;obtain ⟨x,hx⟩:∃ x,rs[k]? =some x:=⟨_,List.getElem?_eq_getElem hk⟩
  have hd:decide ((k:Int) < ((pL rs).length:Int))=true:=by simp; omega
  have hb:(((uL x.2).length:Int) != ((uL x0.2).length:Int))=false:=by simp [hl' x (List.mem_of_getElem? hx),hl' x0 (List.mem_of_getElem? hx0)]
  rw [hd,zaJ,zaa (by omega),zak (by simpa using zc4 hx),zdg,zak (zc4 hx0),zdg,hb,zan,zap,zat (by omega) (by omega)]
  rfl
 ·intro again
  have hd:decide ((rs.length:Int) < ((pL rs).length:Int))=false:=by simp
  have hd2:decide (((pL rs).length:Int) > 0)=true:=by simp; omega
  dsimp only;rw [hd,zan,hd2]
theorem zKs (tg:Tag) {ps:List Part} {n:Nat} (hn:n < 100000) (h0:0 < ps.length) (h1:ps.length < 100000) (h:∀ x∈ps,x.2.length=n):zb2 [.sl tg (pL ps)]=some (.sl .own (uL (refP n (ps.map (·.2))))):=by
 rw [zo4,zcV]
 have hlen:(ps.map fun x=>(zbN x.1 x.2,x.2)).length=ps.length:=by simp
 have hm:(ps.map fun x=>(zbN x.1 x.2,x.2)).map (·.2)=ps.map (·.2):=by rw [List.map_map]; rfl
 have hl':∀ x∈(ps.map fun x=>(zbN x.1 x.2,x.2)),x.2.length=n:=by intro x hx; obtain ⟨y,hy,rfl⟩:=List.mem_map.1 hx; exact h y hy
 rw [←hlen] at h0 h1;rw [←hm]
 generalize (ps.map fun x=>(zbN x.1 x.2,x.2))=rs at*
 clear hm hlen h ps;unfold zhU;obtain ⟨x0,hx0⟩:∃ x,rs[0]? =some x:=⟨_,List.getElem?_eq_getElem h0⟩
 have hls:∀ l∈rs.map (·.2),l.length=n:=by intro l hl; obtain ⟨y,hy,rfl⟩:=List.mem_map.1 hl; exact hl' y hy
 rw [zy7 .lent h0 h1 hl',zab,zbe,Bool.not_true,zan,zak (zc4 hx0),zdg,zaa (by rfl),zcI,hl' x0 (List.mem_of_getElem? hx0),zaa (by omega),zaa (by omega),zaa (by simp),Int.toNat_natCast,zsJ]
 let st:Nat→(List D×List D×Int×Int×PUnit)×PUnit:=fun k=>((uL (sumR (fun _ x=>x) n (rs.map (·.2)) k),pL rs,((pL rs).length:Int),(k:Int),PUnit.unit),PUnit.unit)
 have hst:st 0=((uL (List.replicate n 0),pL rs,((pL rs).length:Int),0,PUnit.unit),PUnit.unit):=rfl;rw [←hst];refine zct st rs.length h1 ?_ ?_
 ·intro again k hk;dsimp only [st];obtain ⟨x,hx⟩:∃ x,rs[k]? =some x:=⟨_,List.getElem?_eq_getElem hk⟩;have hxl:=hl' x (List.mem_of_getElem? hx)
  have hd:decide ((k:Int) < ((pL rs).length:Int))=true:=by simp; omega
  have hsl:=zxf (F:=fun _ x=>x) hls (k:=k) (by simp; omega)
  have hxe:x.2.length=(sumR (fun _ x=>x) n (rs.map (·.2)) k).length:=by omega
  rw [hd,zaJ,zaa (by omega),zak (by simpa using zc4 hx),zdg,zaa (by rfl)]
  let s2:Nat→(List D×List D×Int×Int×(Tag×List D)×Int×Int×PUnit)×PUnit:=fun j=>((uL (mixL (fun a x=>xor8 a x) (sumR (fun _ x=>x) n (rs.map (·.2)) k) x.2 j),pL rs,((pL rs).length:Int),(k:Int),(x.1,uL x.2),((uL x.2).length:Int),(j:Int),PUnit.unit),PUnit.unit)
  have hs2:s2 0=((uL (sumR (fun _ x=>x) n (rs.map (·.2)) k),pL rs,((pL rs).length:Int),(k:Int),(x.1,uL x.2),((uL x.2).length:Int),0,PUnit.unit),PUnit.unit):=by simp only [s2,zy6]; rfl
  rw [←hs2]
  refine zct s2 x.2.length (by omega) ?_ ?_
  ·intro again2 j hj;dsimp only [s2]
   have hd:decide ((j:Int) < ((uL x.2).length:Int))=true:=by simp; omega
   have g1:x.2[j]? =some x.2[j]:=List.getElem?_eq_getElem hj
   have g2:=zBt (f:=fun a x=>xor8 a x) hxe (j:=j) (by omega)
   have ml:=zBs (f:=fun a x=>xor8 a x) hxe (j:=j) (by omega)
   have ms:=zBu (f:=fun a x=>xor8 a x) hxe (j:=j) (by omega)
   rw [hd,zaJ,zaa (by omega),zak (by simpa using ziD g1),zaX,zaa (by omega),zaa (by rw [zcI,ml]; omega),zak (by simpa using ziD g2),zaX,zap,zaa (by omega),zaa (by rw [zcI,ml]; omega),zak (by simpa using ziD g2),zaa (by rfl),zap,
    zat (by omega) (by omega),zaa (by simp),Nat.zero_add,zsI,show Int.toNat (j:Int)=j from rfl,ms]
   rfl
  ·intro again2;dsimp only [s2]
   have hd:decide ((x.2.length:Int) < ((uL x.2).length:Int))=false:=by simp
   have me:mixL (fun a x=>xor8 a x) (sumR (fun _ x=>x) n (rs.map (·.2)) k) x.2 x.2.length=sumR (fun _ x=>x) n (rs.map (·.2)) (k+1):=by
    rw [hxe,zBv hxe]
    have:(rs.map (·.2)).getD k []=x.2:=by simp [List.getD_eq_getElem?_getD,hx]
    simp only [sumR,this]
   rw [hd,zan,zap,zat (by omega) (by omega),zaa (by rfl),me]
   rfl
 ·intro again;dsimp only [st]
  have hd:decide ((rs.length:Int) < ((pL rs).length:Int))=false:=by simp
  rw [hd,zan,zaa (by rfl),zaa (zhQ _)]
  simp [refP]
theorem zKt (tg:Tag) {ps:List Part} {n:Nat} (hn:n < 100000) (h0:0 < ps.length) (h1:ps.length < 255) (h:∀ x∈ps,x.2.length=n):zb3 [.sl tg (pL ps)]=some (.sl .own (uL (refQ n (ps.map (·.2))))):=by
 rw [zo6,zcV]
 have hlen:(ps.map fun x=>(zbN x.1 x.2,x.2)).length=ps.length:=by simp
 have hm:(ps.map fun x=>(zbN x.1 x.2,x.2)).map (·.2)=ps.map (·.2):=by rw [List.map_map]; rfl
 have hl':∀ x∈(ps.map fun x=>(zbN x.1 x.2,x.2)),x.2.length=n:=by intro x hx; obtain ⟨y,hy,rfl⟩:=List.mem_map.1 hx; exact h y hy
 rw [←hlen] at h0 h1;rw [←hm]
 generalize (ps.map fun x=>(zbN x.1 x.2,x.2))=rs at*
 clear hm hlen h ps;unfold zhX;obtain ⟨x0,hx0⟩:∃ x,rs[0]? =some x:=⟨_,List.getElem?_eq_getElem h0⟩
 have hls:∀ l∈rs.map (·.2),l.length=n:=by intro l hl; obtain ⟨y,hy,rfl⟩:=List.mem_map.1 hl; exact hl' y hy
 rw [zy7 .lent h0 (by omega) hl',zab,zbe,Bool.not_true,zan,zak (zc4 hx0),zdg,zaa (by rfl),zcI,hl' x0 (List.mem_of_getElem? hx0),zaa (by omega),zaa (by omega),zaa (by simp),Int.toNat_natCast,zsJ]
 let st:Nat→(List D×List D×Int×Int×PUnit)×PUnit:=fun k=>((uL (sumR (fun k x=>zfL x (zeR k)) n (rs.map (·.2)) k),pL rs,((pL rs).length:Int),(k:Int),PUnit.unit),PUnit.unit)
 have hst:st 0=((uL (List.replicate n 0),pL rs,((pL rs).length:Int),0,PUnit.unit),PUnit.unit):=rfl;rw [←hst]
 refine zct st rs.length (by omega) ?_ ?_
 ·intro again k hk;dsimp only [st];obtain ⟨x,hx⟩:∃ x,rs[k]? =some x:=⟨_,List.getElem?_eq_getElem hk⟩;have hxl:=hl' x (List.mem_of_getElem? hx)
  have hd:decide ((k:Int) < ((pL rs).length:Int))=true:=by simp; omega
  have hsl:=zxf (F:=fun k x=>zfL x (zeR k)) hls (k:=k) (by simp; omega)
  have hxe:x.2.length=(sumR (fun k x=>zfL x (zeR k)) n (rs.map (·.2)) k).length:=by omega
  rw [hd,zaJ,zaa (by omega),zak (by simpa using zc4 hx),zdg,zIj k (by omega),zab,zaX,zaa (by rfl)]
  let s2:Nat→(List D×Int×List D×Int×Int×(Tag×List D)×Int×Int×PUnit)×PUnit:=fun j=>((uL (mixL (fun a x=>xor8 a (zfL x (zeR k))) (sumR (fun k x=>zfL x (zeR k)) n (rs.map (·.2)) k) x.2 j),zeR k,pL rs,((pL rs).length:Int),(k:Int),(x.1,uL x.2),((uL x.2).length:Int),(j:Int),PUnit.unit),PUnit.unit)
  have hs2:s2 0=((uL (sumR (fun k x=>zfL x (zeR k)) n (rs.map (·.2)) k),zeR k,pL rs,((pL rs).length:Int),(k:Int),(x.1,uL x.2),((uL x.2).length:Int),0,PUnit.unit),PUnit.unit):=by simp only [s2,zy6]; rfl
  rw [←hs2]
  refine zct s2 x.2.length (by omega) ?_ ?_
  ·intro again2 j hj;dsimp only [s2]
   have hd:decide ((j:Int) < ((uL x.2).length:Int))=true:=by simp; omega
   have g1:x.2[j]? =some x.2[j]:=List.getElem?_eq_getElem hj
   have g2:=zBt (f:=fun a x=>xor8 a (zfL x (zeR k))) hxe (j:=j) (by omega)
   have ml:=zBs (f:=fun a x=>xor8 a (zfL x (zeR k))) hxe (j:=j) (by omega)
   have ms:=zBu (f:=fun a x=>xor8 a (zfL x (zeR k))) hxe (j:=j) (by omega)
   rw [hd,zaJ,zaa (by omega),zak (by simpa using ziD g1),zaX,zaa (by omega),zaa (by rw [zcI,ml]; omega),zak (by simpa using ziD g2),zaX,zED,zab,zaX,zap,zaa (by omega),zaa (by rw [zcI,ml]; omega),zak (by simpa using ziD g2),zaa (by rfl),zap,
    zat (by omega) (by omega),zaa (by simp),Nat.zero_add,zsI,show Int.toNat (j:Int)=j from rfl,ms]
   rfl
  ·intro again2;dsimp only [s2]
   have hd:decide ((x.2.length:Int) < ((uL x.2).length:Int))=false:=by simp
   have me:mixL (fun a x=>xor8 a (zfL x (zeR k))) (sumR (fun k x=>zfL x (zeR k)) n (rs.map (·.2)) k) x.2 x.2.length=sumR (fun k x=>zfL x (zeR k)) n (rs.map (·.2)) (k+1):=by
    rw [hxe,zBv hxe]
    have:(rs.map (·.2)).getD k []=x.2:=by simp [List.getD_eq_getElem?_getD,hx]
    simp only [sumR,this]
   rw [hd,zan,zap,zat (by omega) (by omega),zaa (by rfl),me]
   rfl
 ·intro again;dsimp only [st]
  have hd:decide ((rs.length:Int) < ((pL rs).length:Int))=false:=by simp
  rw [hd,zan,zaa (by rfl),zaa (zhQ _)]
  simp [refQ]
def znl (n:Int) (i:Nat):Int:=IntKind.u8.wrap (IntKind.i64.wrap (n+IntKind.i64.wrap ((i:Int)*bits .or .i64 (IntKind.i64.wrap (n.tdiv 7)) 1)))
def secN (n:Int):List Int:=if n % 11=10 then List.replicate 32 0 else (List.range 32).map (znl n)
theorem zxg (n:Int):Sec (secN n):=by
 unfold secN;split
 ·exact zjn
 ·refine ⟨by simp,fun x h=>?_⟩
  obtain ⟨i,_,rfl⟩:=List.mem_map.1 h;exact zfV _
theorem zkA (n:Int):zaw [.int .i64 n]=some (.sl .own (uL (secN n))):=by
 rw [zkT];unfold zfx
 rw [zxb n 11 (by omega) (by omega),zab,zaX]
 unfold secN
 by_cases h:n % 11=10
 ·rw [if_pos h]; simp [h]; rfl
 ·rw [if_neg h]
  have hb:(n % 11 == 10)=false:=by simp [h]
  rw [hb,zan]
  have:=zct (R:=D) (α:=(Int×List D×Int×Int×PUnit)×PUnit)
   (fun k=>((n,uL ((List.range 32).map fun i=>if i < k then znl n i else 0),32,(k:Int),PUnit.unit),PUnit.unit)) 32 (by omega)
   (B:=?B) (r:=some (.sl .own (uL ((List.range 32).map (znl n))))) ?_ ?_
  ·exact this
  ·intro again k hk;dsimp only
   have hd:decide ((k:Int) < 32)=true:=by simp; omega
   have hg:((List.range 32).map fun i=>if i < k then znl n i else 0)[k]? =some 0:=by simp [hk]
   have hv:znl n k=IntKind.u8.wrap (IntKind.i64.wrap (n+IntKind.i64.wrap ((k:Int)*bits .or .i64 (IntKind.i64.wrap (n.tdiv 7)) 1))):=rfl
   rw [hd,zaJ,zap,zap,zap,zap,zap,←hv,zaa (by omega),zaa (by simp; omega),zak (by simpa using ziD hg)]
   rw [zaa (by rfl),zap,zat (n:=(k:Int)+1) (by omega) (by omega),zaa (by simp)]
   have:(uL ((List.range 32).map fun i=>if i < k then znl n i else 0)).set (0+Int.toNat (k:Int)) (.int .u8 (znl n k))=uL ((List.range 32).map fun i=>if i < k+1 then znl n i else 0):=by
    rw [zsI];congr 1;apply List.ext_getElem?;intro j;rw [List.getElem?_set]
    by_cases hj:j < 32
    ·by_cases hjk:k=j
     ·subst hjk; simp [hj]
     ·have:(0+Int.toNat (k:Int))≠j:=by simp; exact hjk
      rw [if_neg this];simp [hj]
      by_cases h1:j < k
      ·rw [if_pos h1,if_pos (by omega)]
      ·rw [if_neg h1,if_neg (by omega)]
    ·simp [hj];omega
   rw [this];rfl
  ·intro again
   have e:((List.range 32).map fun i=>if i < 32 then znl n i else 0)=(List.range 32).map (znl n):=by
    apply List.map_congr_left; intro i hi; rw [if_pos (List.mem_range.1 hi)]
   dsimp only;rw [e];simp
def secL (l:List Int) (n:Nat):List (List Int):=(List.range n).map fun (i:Nat)=>secN (l.getD i (3*(i:Int)))
theorem zBw (l:List Int) (n:Nat):∀ x∈secL l n,Sec x:=by
 intro x hx; obtain ⟨i,_,rfl⟩:=List.mem_map.1 hx; exact zxg _
@[simp] theorem zJ5 (l:List Int) (n:Nat):(secL l n).length=n:=by simp [secL]
theorem zxh (ls:List (List Int)) (l:List Int):pL (fP ls)++[.sl .fresh (uL l)]=pL (fP (ls++[l])):=by simp [pL,fP]
theorem zy8 (tg:Tag) (l:List Int) {n:Nat} (hn:n < 100000):zbn [.sl tg (intL l),.int .i64 n]=some (.sl .own (pL (fP (secL l n)))):=by
 rw [zkd,zjl];unfold ze7
 let st:Nat→(List D×Int×List D×Int×PUnit)×PUnit:=fun k=>((intL l,(n:Int),pL (fP (secL l k)),(k:Int),PUnit.unit),PUnit.unit)
 show zb1 _ (st 0)=_;refine zct st n hn ?_ ?_
 ·intro again k hk;dsimp only [st]
  have hd:decide ((k:Int) < (n:Int))=true:=by simp; omega
  have hs:secL l (k+1)=secL l k++[secN (l.getD k (3*(k:Int)))]:=by unfold secL; rw [List.range_succ,List.map_append]; rfl
  rw [hd,zaJ,zap,zc8,hs,←zxh]
  by_cases hkl:k < l.length
  ·have hd2:decide ((k:Int) < (l.length:Int))=true:=by simp; omega
   have hg:l.getD k (3*(k:Int))=l[k]:=by simp [List.getD_eq_getElem?_getD,hkl]
   rw [hd2,zaJ,zaa (by omega),zak (by simpa using zFD hkl),zaX,zkA,zab,zbl,zaa (by omega),zaa (by simp; omega),zaa (by rfl),zap,zat (n:=(k:Int)+1) (by omega) (by omega),zbW,zaa (by simp),hg]
   rfl
  ·have hd2:decide ((k:Int) < (l.length:Int))=false:=by simp; omega
   have hg:l.getD k (3*(k:Int))=3*(k:Int):=by simp [List.getD_eq_getElem?_getD,List.getElem?_eq_none (show l.length≤k by omega)]
   rw [hd2,zan,zat (n:=3*(k:Int)) (by omega) (by omega),zkA,zab,zbl,zaa (by omega),zaa (by simp; omega),zaa (by rfl),zap,zat (n:=(k:Int)+1) (by omega) (by omega),zbW,zaa (by simp),hg]
   rfl
 ·intro again;dsimp only [st]
  have hd:decide ((n:Int) < (n:Int))=false:=by simp
  rw [hd,zan,zaa (by rfl),zaa (zgF _)]
def zmz (b:Nat) (k:Nat) (s:Nat×Nat):Nat×Nat:=
 (if 255 < s.1*2 then (s.1*2) ^^^ 285 else s.1*2,if b / 2 ^ k % 2=1 then s.2 ^^^ s.1 else s.2)
def zdd (a b:Nat):Nat→Nat×Nat
 | 0=>(a,0)
 | k+1=>zmz b k (zdd a b k)
theorem zIk {m n k:Nat} (hm:m < 2 ^ k) (hn:n < 2 ^ k):m ^^^ n < 2 ^ k:=Nat.xor_lt_two_pow hm hn
theorem zJK (m n:Nat) (hm:m < 1024) (hn:n < 1024):bits .xor .i64 (m:Int) (n:Int)=((m ^^^ n:Nat):Int):=by
 have h:m ^^^ n < 2 ^ 10:=zIk (by omega) (by omega)
 have e:((BitVec.ofInt 64 (m:Int)) ^^^ (BitVec.ofInt 64 (n:Int))).toNat=m ^^^ n:=by
  rw [BitVec.toNat_xor]
  simp [Nat.mod_eq_of_lt (show m < 18446744073709551616 by omega),Nat.mod_eq_of_lt (show n < 18446744073709551616 by omega)]
 show IntKind.i64.wrap (((BitVec.ofInt 64 (m:Int)) ^^^ (BitVec.ofInt 64 (n:Int))).toNat:Int)=_;rw [e]
 exact zat (by omega) (by omega)
theorem ztx {a b:Nat} (ha:a < 256) (hb:b < 256):∀ k,k≤8→(zfh a b k).1=((zdd a b k).1:Int)∧(zfh a b k).2=((zdd a b k).2:Int)∧(zdd a b k).1 < 256∧(zdd a b k).2 < 256
 | 0,_=>⟨zat (by omega) (by omega),rfl,ha,by show 0 < 256; omega⟩
 | k+1,hk=>by
  obtain ⟨h1,h2,h3,h4⟩:=ztx ha hb k (by omega)
  have w:IntKind.i64.wrap (((zdd a b k).1:Int)*2)=(((zdd a b k).1*2:Nat):Int):=by rw [zat (by omega) (by omega)]; omega
  have hx:(zdd a b k).2 ^^^ (zdd a b k).1 < 256:=zoO h4 h3
  have hbk:bits .and .u8 ((b:Int).fdiv (2 ^ min k 8)) 1=((b / 2 ^ k % 2:Nat):Int):=by
   have e:((b:Int).fdiv (2 ^ min k 8))=((b / 2 ^ k:Nat):Int):=by
    rw [show min k 8=k by omega,Int.fdiv_eq_ediv_of_nonneg _ (by exact_mod_cast Nat.zero_le (2 ^ k))]
    simp
   rw [e];exact and1 _ (Nat.lt_of_le_of_lt (Nat.div_le_self _ _) hb)
  have hd:∀ x < 256,255 < x*2→(x*2) ^^^ 285 < 256:=by decide+kernel
  show (zqF b k (zfh a b k)).1=((zmz b k (zdd a b k)).1:Int)∧(zqF b k (zfh a b k)).2=((zmz b k (zdd a b k)).2:Int)∧(zmz b k (zdd a b k)).1 < 256∧(zmz b k (zdd a b k)).2 < 256;unfold zqF zmz
  rw [h1,h2,hbk,w,zJK _ _ (by omega) (by omega)]
  have hx2:=zJK ((zdd a b k).1*2) 285 (by omega) (by omega)
  refine ⟨?_,?_,?_,?_⟩
  ·dsimp only;split
   ·rw [if_pos (by omega)]; exact hx2
   ·rw [if_neg (by omega)]
  ·dsimp only;split
   ·rw [if_pos (by omega)]
   ·rw [if_neg (by omega)]
  ·dsimp only;split
   ·exact hd _ h3 (by assumption)
   ·omega
  ·dsimp only;split
   ·exact hx
   ·exact h4
theorem zvp {a b:Nat} (ha:a < 256) (hb:b < 256):zfL a b=((zdd a b 8).2:Int)∧(zdd a b 8).2 < 256:=by
 obtain ⟨_,h2,_,h4⟩:=ztx ha hb 8 (Nat.le_refl _);unfold zfL;rw [h2]
 exact ⟨zzS (by omega) (by omega),h4⟩
def zqG:Nat→Nat
 | 0=>1
 | k+1=>(zdd (zqG k) 2 8).2
theorem zvq:∀ k,zeR k=(zqG k:Int)∧zqG k < 256
 | 0=>⟨rfl,by decide⟩
 | k+1=>by
  obtain ⟨h1,h2⟩:=zvq k;show zfL (zeR k) 2=((zdd (zqG k) 2 8).2:Int)∧(zdd (zqG k) 2 8).2 < 256
  have:=zvp h2 (show 2 < 256 by omega)
  rw [show ((2:Nat):Int)=2 from rfl] at this
  rw [h1]; exact this
theorem zy9:∀ k < 7,∀ x < 256,(zdd x (zqG k) 8).2=mN x (powN k):=by decide+kernel
theorem zAt {x:Int} (h:Byt x) {k:Nat} (hk:k < 7):zfL x (zeR k)=mul8 x (pow8 k):=by
 obtain ⟨m,hm,rfl⟩:=zfs h;obtain ⟨h1,h2⟩:=zvq k;have e1:=(zvp hm h2).1;have e2:=(zeZ hm (ziP k)).1;have e3:=zy9 k hk m hm;rw [h1,zmv,e1,e2,e3]
theorem zEE {F:Nat→Int→Int} {f:Nat→Int} {ls:List (List Int)} (h:∀ l∈ls,Sec l) (hF:∀ k x,k < ls.length→Byt x→F k x=mul8 x (f k)):∀ {k:Nat},k≤ls.length→sumR F 32 ls k=sumK f 32 ls k
 | 0,_=>rfl
 | k+1,hk=>by
  have hs:=h _ (zee (show k < ls.length by omega))
  show List.zipWith (fun a x=>xor8 a (F k x)) (sumR F 32 ls k) (ls.getD k [])=List.zipWith xor8 (sumK f 32 ls k) ((ls.getD k []).map (mul8 · (f k)))
  rw [zEE h hF (by omega),List.zipWith_map_right]
  apply List.ext_getElem?;intro i;rw [List.getElem?_zipWith,List.getElem?_zipWith]
  cases e1:(sumK f 32 ls k)[i]? with
  | none=>rfl
  | some a=>
   cases e2:(ls.getD k [])[i]? with
   | none=>rfl
   | some x=>simp only; rw [hF k x (by omega) (hs.byt x (List.mem_of_getElem? e2))]
theorem zGg {ls:List (List Int)} (h:∀ l∈ls,Sec l):refP 32 ls=sumP 32 ls:=by
 have:=zEE (F:=fun _ x=>x) (f:=fun _=>1) h (fun _ x _ hx=>(zrJ hx).symm) (Nat.le_refl ls.length)
 exact this
theorem zGh {ls:List (List Int)} (h:∀ l∈ls,Sec l) (h7:ls.length≤7):refQ 32 ls=sumQ 32 ls:=by
 have:=zEE (F:=fun k x=>zfL x (zeR k)) (f:=pow8) h (fun k x hk hx=>zAt hx (by omega)) (Nat.le_refl ls.length)
 exact this
end Wf

namespace Wf
open Go Go.RowKit Go.Proofs
set_option linter.unusedSimpArgs false
set_option linter.unusedVariables false
set_option maxHeartbeats 4000000
section
variable (g:Geo) (row k n:Int)
theorem zoh:zda [.agg [.int .i64 g.l,.int .i64 g.d,.int .i64 g.c],.int .i64 row]=some (.bool (zcL g row)):=by
 rw [zz7];unfold zwJ
 rw [show D.agg [.int .i64 g.l,.int .i64 g.d,.int .i64 g.c]=gD g.l g.d g.c from rfl,zjL,zab]
 show asI IntKind.i64 (.int .i64 _) _=_;rw [zaX];unfold zcL;cases h:g.ok
 ·have:zfH g.l g.d g.c=false:=h;simp [this]
 ·have:zfH g.l g.d g.c=true:=h
  by_cases h0:0≤row
  ·simp [this,h0]
  ·simp [this,h0]
theorem zjN:zaD [.agg [.int .i64 g.l,.int .i64 g.d,.int .i64 g.c],.int .i64 row]=some (.tup [.int .i64 (parP g row).1,.int .i64 (parP g row).2]):=zy0 g row
theorem zty:za2 [.agg [.int .i64 g.l,.int .i64 g.d,.int .i64 g.c],.int .i64 row,.int .i64 k]=some (.int .i64 (zc1 g row k)):=zvn g row k
theorem zmA:zai [.agg [.int .i64 g.l,.int .i64 g.d,.int .i64 g.c]]=some (.int .i64 g.width):=zmb g
theorem zza:zaU [.agg [.int .i64 g.l,.int .i64 g.d,.int .i64 g.c],.int .i64 row,.int .i64 k]=some (.int .i64 (zc1 g row k)):=zF4 g row k
theorem zBx:zaK [.agg [.int .i64 g.l,.int .i64 g.d,.int .i64 g.c],.int .i64 row]=some (.tup [.int .i64 (parP g row).1,.int .i64 (parP g row).2]):=zEp g row
theorem ztz:zaB [.agg [.int .i64 g.l,.int .i64 g.d,.int .i64 g.c],.int .i64 row]=some (.bool (zcL g row)):=zxa g row
theorem zjO:zad [.agg [.int .i64 g.l,.int .i64 g.d,.int .i64 g.c]]=some (.int .i64 g.width):=zvm g
theorem zEF:zdv [.agg [.int .i64 g.l,.int .i64 g.d,.int .i64 g.c],.int .i64 n]=some (.tup [.int .i64 (ofP g n).1,.int .i64 (ofP g n).2.1,.bool (ofP g n).2.2]):=zF5 g n
theorem zAu:zbY [.agg [.int .i64 g.l,.int .i64 g.d,.int .i64 g.c],.int .i64 row]=some (.sl .own (zEa g row)):=zCr g row
end
def zih (g:Geo) (row:Int) (ls:List (List Int)):Nat→List Part
 | 0=>List.replicate g.d.toNat (Tag.nil,[])
 | k+1=>(zih g row ls k).set (zc1 g row (k:Int)).toNat (Tag.fresh,ls.getD k [])
def zCv (g:Geo) (row:Int) (ls:List (List Int)) (p q:List Int):List Part:=
 if (parP g row).2 < 0 then (zih g row ls g.width.toNat).set (parP g row).1.toNat (Tag.fresh,p)
 else ((zih g row ls g.width.toNat).set (parP g row).1.toNat (Tag.fresh,p)).set (parP g row).2.toNat (Tag.fresh,q)
theorem zgb (g:Geo) (row:Int) (ls:List (List Int)) (k:Nat):(zih g row ls k).length=g.d.toNat:=by
 induction k with
 | zero=>simp [zih]
 | succ k ih=>simp [zih,ih]
theorem zvr (g:Geo) (row:Int) (ls:List (List Int)) (k:Nat):∀ x∈zih g row ls k,Part.free x=true:=by
 induction k with
 | zero=>intro x hx; rw [(List.mem_replicate.1 hx).2]; rfl
 | succ k ih=>
  intro x hx;rcases List.mem_or_eq_of_mem_set hx with hx | hx
  ·exact ih x hx
  ·rw [hx]; rfl
theorem zrR {ps:List Part} (h:∀ x∈ps,Part.free x=true) (i:Nat) (l:List Int):∀ x∈ps.set i (Tag.fresh,l),Part.free x=true:=by
 intro x hx;rcases List.mem_or_eq_of_mem_set hx with hx | hx
 ·exact h x hx
 ·rw [hx]; rfl
theorem zkB (t:Tag) (l:List D):D.isAgg (.sl t l)=false:=rfl
theorem zBy (n:Nat):pL (List.replicate n (Tag.nil,[]))=List.replicate n (D.sl .nil []):=by simp [pL,uL]
section
variable {g:Geo} {row:Int} (h:zcL g row=true)
include h
theorem zBz {ls:List (List Int)} {d:Int} (d0:0≤d) (d1:d < g.d) (h1:d≠(parP g row).1) (h2:d≠(parP g row).2):∀ k:Nat,(k:Int)≤g.width→
  (zih g row ls k)[d.toNat]? =some (if zfW g d row < k then (Tag.fresh,ls.getD (zfW g d row).toNat []) else (Tag.nil,[]))
 | 0,_=>by
  obtain ⟨c0,c1,c2⟩:=zj6 h d0 d1 h1 h2;unfold zih
  rw [List.getElem?_replicate,if_pos (by omega),if_neg (by omega)]
 | k+1,hk=>by
  obtain ⟨c0,c1,c2⟩:=zj6 h d0 d1 h1 h2
  have hdi:=zhR h (k:=(k:Int)) (by omega) (by omega)
  have ih:=zBz (ls:=ls) d0 d1 h1 h2 k (by omega)
  unfold zih;rw [List.getElem?_set]
  by_cases e:zfW g d row=k
  ·have e2:zc1 g row k=d:=by rw [←e]; exact c2
   rw [if_pos (by rw [e2]),if_pos (by rw [zgb,e2]; omega),if_pos (by omega)]
   congr 3;rw [e]; rfl
  ·have e2:zc1 g row k≠d:=fun e2=>e (zsP h c0 c1 (by omega) (by omega) (by rw [c2,e2]))
   rw [if_neg (by omega),ih]
   by_cases hlt:zfW g d row < k
   ·rw [if_pos hlt,if_pos (by omega)]
   ·rw [if_neg hlt,if_neg (by omega)]
theorem zvs (ls:List (List Int)) (p q:List Int) (hp:p=sumP 32 ls) (hq:q=sumQ 32 ls∨g.l=5):zCv g row ls p q=fP (zcC g row ls):=by
 obtain ⟨hk,r0,r1⟩:=zbz.1 h;have hw:=zca hk;obtain ⟨p0,p1,p2⟩:=zlz h;have hpq:=zEd h
 have hlen:(zCv g row ls p q).length=g.d.toNat:=by unfold zCv; split<;>simp [zgb]
 apply List.ext_getElem?;intro i
 by_cases hi:i < g.d.toNat
 ·have hr:(fP (zcC g row ls))[i]? =some (Tag.fresh,atR g row ls i):=zBr (zp8 (by omega))
  rw [hr]
  have hbase:∀ d:Int,0≤d→d < g.d→d≠(parP g row).1→d≠(parP g row).2→(zih g row ls g.width.toNat)[d.toNat]? =some (Tag.fresh,atR g row ls d):=by
   intro d d0 d1 n1 n2;obtain ⟨c0,c1,c2⟩:=zj6 h d0 d1 n1 n2
   rw [zBz h d0 d1 n1 n2 _ (by omega),if_pos (by omega)]
   unfold atR;rw [if_neg n1,if_neg n2]
  unfold zCv
  by_cases e1:(i:Int)=(parP g row).1
  ·have ha:atR g row ls i=p:=by rw [e1,at_p h,hp]
   rw [ha];split
   ·rw [List.getElem?_set,if_pos (by omega),if_pos (by rw [zgb]; omega)]
   ·rw [List.getElem?_set,if_neg (by omega),List.getElem?_set,if_pos (by omega),if_pos (by rw [zgb]; omega)]
  ·by_cases e2:(i:Int)=(parP g row).2
   ·have ha:atR g row ls i=sumQ 32 ls:=by rw [e2,at_q h]
    have h6:¬ (parP g row).2 < 0:=by omega
    rw [ha,if_neg h6,List.getElem?_set,if_pos (by omega),if_pos (by rw [List.length_set,zgb]; omega)]
    rcases hq with hq | hq
    ·rw [hq]
    ·rcases p2 with ⟨e,_⟩ | ⟨_,_,e⟩<;>omega
   ·have:=hbase i (by omega) (by omega) e1 e2
    rw [Int.toNat_natCast] at this;split
    ·rw [List.getElem?_set,if_neg (by omega),this]
    ·rw [List.getElem?_set,if_neg (by omega),List.getElem?_set,if_neg (by omega),this]
 ·rw [List.getElem?_eq_none (by omega),List.getElem?_eq_none (by simp [zhA]; omega)]
end
theorem zGi (t:Tag) (l:List Int):zax [.sl t (uL l)]=some (.bool (!decide (l.length=32))):=by
 rw [zpk,zcH];unfold zh7;simp only [zcI];congr 2
 by_cases h:l.length=32
 ·simp [h]
 ·simp [h]; omega
theorem zqH (tg:Tag) (ps:List Part) (hn:ps.length < 100000):
  ∃ r,zaj [.sl tg (pL ps),.fn ID.row_sectors_1 [] []]=some r∧∃ i:Int,r=.int .i64 i∧decide (i≥0)= !(ps.all fun x=>decide (x.2.length=32)):=by
 rw [zeC,zcV]
 have hm:(ps.all fun x=>decide (x.2.length=32))=((ps.map fun x=>(zbN x.1 x.2,x.2)).all fun x=>decide (x.2.length=32)):=by rw [List.all_map]; rfl
 have hlen:(ps.map fun x=>(zbN x.1 x.2,x.2)).length=ps.length:=by simp
 rw [hm];rw [←hlen] at hn
 generalize (ps.map fun x=>(zbN x.1 x.2,x.2))=rs at*
 unfold zcq
 refine zwi (fun a=>(rs.length:Nat) - a.1.2.2.1.toNat) (fun r=>∃ i:Int,r=D.int .i64 i∧decide (i≥0)= !(rs.all fun x=>decide (x.2.length=32)))
  (fun a=>∃ k:Nat,k≤rs.length∧((rs.take k).all fun x=>decide (x.2.length=32))=true∧a=((pL rs,(rs.length:Int),(k:Int),PUnit.unit),PUnit.unit)) ?_ ⟨0,by omega,by simp,by rw [zer]; rfl⟩ (by simp; omega)
 rintro again _ ⟨k,hk,he,rfl⟩ hag
 dsimp only
 by_cases hkm:k < rs.length
 ·obtain ⟨x,hx⟩:∃ x,rs[k]? =some x:=⟨_,List.getElem?_eq_getElem hkm⟩
  have hd:decide ((k:Int) < (rs.length:Int))=true:=by simp; omega
  rw [hd,zaJ,zaa (by omega),zak (by simpa using zc4 hx),zdg,zGi,zab,zbe]
  by_cases hf:x.2.length=32
  ·simp only [hf,decide_true,Bool.not_true,zan,zap]
   rw [zat (by omega) (by omega)]
   refine hag _ ⟨k+1,by omega,?_,rfl⟩ (by simp; omega)
   rw [List.take_add_one,hx,List.all_append,he];simp [hf]
  ·simp only [hf,decide_false,Bool.not_false,zaJ];refine ⟨_,rfl,_,rfl,?_⟩
   have:(rs.all fun x=>decide (x.2.length=32))=false:=by
    rw [List.all_eq_false]
    exact ⟨x,List.mem_of_getElem? hx,by simp [hf]⟩
   rw [this];simp
 ·have hd:decide ((k:Int) < (rs.length:Int))=false:=by simp; omega
  rw [hd,zan];refine ⟨_,rfl,_,rfl,?_⟩
  rw [List.take_of_length_le (by omega)] at he
  rw [he];rfl
theorem row_sectors (tg:Tag) (ps:List Part) (hn:ps.length < 100000):zcw [.sl tg (pL ps)]=some (.bool (ps.all fun x=>decide (x.2.length=32))):=by
 rw [zrw,zcV]
 have hm:(ps.all fun x=>decide (x.2.length=32))=((ps.map fun x=>(zbN x.1 x.2,x.2)).all fun x=>decide (x.2.length=32)):=by rw [List.all_map]; rfl
 have hlen:(ps.map fun x=>(zbN x.1 x.2,x.2)).length=ps.length:=by simp
 rw [hm];rw [←hlen] at hn
 generalize (ps.map fun x=>(zbN x.1 x.2,x.2))=rs at*
 unfold zks
 have:zah [.sl .lent (pL rs),.fn ID.row_sectors_1 [] []]=some (.bool (!(rs.all fun x=>decide (x.2.length=32)))):=by
  rw [zeg,zcV]
  have hm:(rs.all fun x=>decide (x.2.length=32))=((rs.map fun x=>(zbN x.1 x.2,x.2)).all fun x=>decide (x.2.length=32)):=by rw [List.all_map]; rfl
  have hlen:(rs.map fun x=>(zbN x.1 x.2,x.2)).length=rs.length:=by simp
  rw [hm];rw [←hlen] at hn
  generalize (rs.map fun x=>(zbN x.1 x.2,x.2))=qs at*
  unfold zcb;obtain ⟨r,h1,i,rfl,h2⟩:=zqH .lent qs hn;rw [h1,zab,zaX,h2]
 rw [this,zab,zbe,Bool.not_not]
theorem zBA (g:Geo) (row:Int) (tg:Tag) {ps:List Part} (hn:ps.length < 100000):
  zce [.agg [.int .i64 g.l,.int .i64 g.d,.int .i64 g.c],.int .i64 row,.sl tg (pL ps)]=some (solD (zwB g row (ps.map (·.2)))):=by
 rw [zwX,zcV]
 have hlen:(ps.map fun x=>(zbN x.1 x.2,x.2)).length=ps.length:=by simp
 have hm:(ps.map fun x=>(zbN x.1 x.2,x.2)).map (·.2)=ps.map (·.2):=by rw [List.map_map]; rfl
 rw [←hlen] at hn;rw [←hm]
 generalize (ps.map fun x=>(zbN x.1 x.2,x.2))=rs at*
 clear hm hlen ps;unfold zqv zwB;cases h:zcL g row
 ·simp [zoh,h,solD]
 by_cases hl:(rs.length:Int)=g.width
 ·have hall:((rs.map (·.2)).all fun x=>decide (x.length=32))=(rs.all fun x=>decide (x.2.length=32)):=by rw [List.all_map]; rfl
  rw [hall]
  cases hs:(rs.all fun x=>decide (x.2.length=32))
  ·simp [zoh,h,solD,zmA,hl,row_sectors _ _ hn,hs]
  ·have hl':∀ x∈rs,x.2.length=32:=fun x hx=>by rw [List.all_eq_true] at hs; simpa using hs x hx
   rw [if_pos ⟨rfl,by simp [hl],rfl⟩]
   obtain ⟨hk,r0,r1⟩:=zbz.1 h;have hw:=zca hk;have hdd:=ok_d hk
   have hb:((((pL rs).length:Nat):Int) != g.width)=false:=by simp [hl]
   have hrl:rs.length=g.width.toNat:=by omega
   rw [zoh,zab,zbe,h,Bool.not_true,zan,zmA,zab,zaX,hb,zan,row_sectors _ _ hn,zab,zbe,hs,Bool.not_true,zan,zaa (by omega),zaa (by rfl),zaa (by omega),zaa (by omega),zaa (by simp)]
   let st:Nat→(Int×List D×(Int×Int×Int×PUnit)×List D×List D×Int×Int×PUnit)×PUnit:=fun k=>((row,pL rs,(g.l,g.d,g.c,PUnit.unit),pL (zih g row (rs.map (·.2)) k),pL rs,((pL rs).length:Int),(k:Int),PUnit.unit),PUnit.unit)
   have hst:st 0=((row,pL rs,(g.l,g.d,g.c,PUnit.unit),List.replicate g.d.toNat (D.sl .nil []),pL rs,((pL rs).length:Int),0,PUnit.unit),PUnit.unit):=by
    simp only [st,zih,zBy]; rfl
   rw [←hst]
   refine zb8 st rs.length (by omega) ?_ ?_
   ·intro again k hk';dsimp only [st];obtain ⟨x,hx⟩:∃ x,rs[k]? =some x:=⟨_,List.getElem?_eq_getElem hk'⟩;have hxs:=hl' x (List.mem_of_getElem? hx)
    have hxe:rs[k]=x:=by rw [List.getElem?_eq_getElem hk'] at hx; exact Option.some.inj hx
    have hdi:=zhR h (k:=(k:Int)) (by omega) (by omega)
    have hfl:=zgb g row (rs.map (·.2)) k
    obtain ⟨y,hy⟩:∃ y,(zih g row (rs.map (·.2)) k)[(zc1 g row (k:Int)).toNat]? =some y:=⟨_,List.getElem?_eq_getElem (by omega)⟩
    have hgd:(rs.map (·.2)).getD k []=x.2:=by simp [List.getD_eq_getElem?_getD,hx]
    have hgx:(pL rs)[k]? =some (.sl x.1 (uL x.2)):=zc4 hx
    have hlt:(zc1 g row (k:Int)).toNat < g.d.toNat:=by omega
    simp (disch:=first | omega | assumption | (simp; done) | fail) [-List.all_eq_true,hk',zak hgx,zty,zog (show x.2.length≤4294967296 by omega),hdi.1,hfl,hlt,zak (zc4 hy),zkB,zat,zpH,zih]
    rw [hxe]
   ·intro again;dsimp only [st];obtain ⟨p0,p1,p2⟩:=zlz h
    have hfl:=zgb g row (rs.map (·.2)) rs.length
    obtain ⟨y,hy⟩:∃ y,(zih g row (rs.map (·.2)) rs.length)[(parP g row).1.toNat]? =some y:=⟨_,List.getElem?_eq_getElem (by omega)⟩
    have hrp:=zEy (n:=32) .lent (ps:=rs) (by omega) (by omega) (by omega) hl'
    have hrq:=zEz (n:=32) .lent (ps:=rs) (by omega) (by omega) (by omega) hl'
    have hff:=zvs h (rs.map (·.2)) (sumP 32 (rs.map (·.2))) (sumQ 32 (rs.map (·.2))) rfl (.inl rfl)
    have hfree:=zrR (zvr g row (rs.map (·.2)) rs.length) (parP g row).1.toNat (sumP 32 (rs.map (·.2)))
    have hfree2:=zrR hfree (parP g row).2.toNat (sumQ 32 (rs.map (·.2)))
    have hlt:(parP g row).1.toNat < g.d.toNat:=by omega
    unfold zCv at hff;rw [←hrl] at hff;rcases p2 with ⟨p2,_⟩ | ⟨q0,q1,_⟩
    ·rw [if_pos (by omega)] at hff
     have hq:¬ (0≤(parP g row).2):=by omega
     simp (disch:=first | omega | assumption | (simp; done) | fail) [-List.all_eq_true,zjN,hrp,p0,hfl,hlt,zak (zc4 hy),zkB,hq,zpH,zmd hfree,solD,hff,zgF]
    ·rw [if_neg (by omega)] at hff
     have hlt2:(parP g row).2.toNat < g.d.toNat:=by omega
     obtain ⟨z,hz⟩:∃ z,((zih g row (rs.map (·.2)) rs.length).set (parP g row).1.toNat (Tag.fresh,sumP 32 (rs.map (·.2))))[(parP g row).2.toNat]? =some z:=⟨_,List.getElem?_eq_getElem (by simp [hfl]; omega)⟩
     simp (disch:=first | omega | assumption | (simp; done) | fail) [-List.all_eq_true,zjN,hrp,hrq,p0,q0,hfl,hlt,hlt2,zak (zc4 hy),zak (zc4 hz),zkB,zpH,zmd hfree,zmd hfree2,solD,hff,zgF]
 ·have h2:¬ (true=true∧(((rs.map (·.2)).length:Nat):Int)=g.width∧((rs.map (·.2)).all fun x=>decide (x.length=32))=true):=by rintro ⟨_,e,_⟩; simp at e; exact hl e
  rw [if_neg h2];simp [zoh,h,solD,zmA,hl]
end Wf

namespace Wf
open Go Go.RowKit Go.Proofs
set_option linter.unusedSimpArgs false
set_option linter.unusedVariables false
set_option maxHeartbeats 4000000
def zgI (g:Geo) (row:Int) (rs:List Part) (k:Nat):List Part:=(List.range k).map fun (j:Nat)=>rs.getD (zc1 g row (j:Int)).toNat (.nil,[])
theorem zzb (g:Geo) (row:Int) (rs:List Part):(zgI g row rs g.width.toNat).map (·.2)=zg0 g row (rs.map (·.2)):=by
 unfold zgI zg0;rw [List.map_map];apply List.map_congr_left;intro j _;simp [List.getD_eq_getElem?_getD];cases rs[(zc1 g row (j:Int)).toNat]? <;>rfl
theorem zxi (g:Geo) (row:Int) (rs:List Part) {k:Nat} {x:Part} (h:rs[(zc1 g row (k:Int)).toNat]? =some x):zgI g row rs (k+1)=zgI g row rs k++[x]:=by
 unfold zgI;rw [List.range_succ,List.map_append];simp [List.getD_eq_getElem?_getD,h]
theorem zzc {R:Type} (a b:D) (f:LfT [.any,.any]→Option R):zay [.any,.any] [a,b] f=f (a,b,()):=by rw [zci,zci,zch]
theorem zBB (g:Geo) (row:Int) (tg:Tag) {ps:List Part} (hn:ps.length < 100000):
  zcd [.agg [.int .i64 g.l,.int .i64 g.d,.int .i64 g.c],.int .i64 row,.sl tg (pL ps)]=some (solD (zrg g row (ps.map (·.2)))):=by
 rw [zwU,zcV]
 have hm:(ps.map fun x=>(zbN x.1 x.2,x.2)).map (·.2)=ps.map (·.2):=by rw [List.map_map]; rfl
 have hlen:(ps.map fun x=>(zbN x.1 x.2,x.2)).length=ps.length:=by simp
 rw [←hm];rw [←hlen] at hn
 generalize (ps.map fun x=>(zbN x.1 x.2,x.2))=rs at*
 clear hm hlen ps;unfold zqq zrg;cases h:zcL g row
 ·simp [zoh,h,solD]
 by_cases hl:(rs.length:Int)=g.d
 ·rw [if_pos ⟨rfl,by simp [hl]⟩]
  have hk:=(zbz.1 h).1;have hw:=zca hk;have hdd:=ok_d hk
  have hb:((((pL rs).length:Nat):Int) != g.d)=false:=by simp [hl]
  rw [zoh,zab,zbe,h,Bool.not_true,zan,hb,zan,zmA,zab,zaX]
  let st:Nat→(Int×List D×(Int×Int×Int×PUnit)×List D×Int×Int×PUnit)×PUnit:=fun k=>((row,pL rs,(g.l,g.d,g.c,PUnit.unit),pL (zgI g row rs k),g.width,(k:Int),PUnit.unit),PUnit.unit)
  have hst:st 0=((row,pL rs,(g.l,g.d,g.c,PUnit.unit),[],g.width,0,PUnit.unit),PUnit.unit):=rfl;rw [←hst]
  refine zb8 st g.width.toNat (by omega) ?_ ?_
  ·intro again k hk';dsimp only [st]
   have hd:(k:Int) < g.width:=by omega
   have hdi:=zhR h (k:=(k:Int)) (by omega) (by omega)
   obtain ⟨x,hx⟩:∃ x,rs[(zc1 g row (k:Int)).toNat]? =some x:=⟨_,List.getElem?_eq_getElem (by omega)⟩
   have hpl:(zgI g row rs k).length=k:=by simp [zgI]
   simp (disch:=first | omega | assumption | (simp; done) | fail) [-List.all_eq_true,hd,zty,hdi.1,zak (zc4 hx),hpl,zat,zEx,zxi g row rs hx]
  ·intro again;dsimp only [st]
   have hd:¬ ((g.width.toNat:Nat):Int) < g.width:=by omega
   obtain ⟨p0,p1,p2⟩:=zlz h
   obtain ⟨xp,hxp⟩:∃ x,rs[(parP g row).1.toNat]? =some x:=⟨_,List.getElem?_eq_getElem (by omega)⟩
   have hpo:pOf g row (rs.map (·.2))=xp.2:=by unfold pOf; simp [List.getD_eq_getElem?_getD,hxp]
   have hrl:(zgI g row rs g.width.toNat).length < 100000:=by simp [zgI]; omega
   have hsol:=fun tq q=>zGf xp.1 tq .lent xp.2 q hrl
   rw [zzb] at hsol;rw [hpo];rcases p2 with ⟨p2,_⟩ | ⟨q0,q1,_⟩
   ·have hqo:qOf g row (rs.map (·.2))=[]:=by unfold qOf; rw [if_pos (by omega)]
    have hq:(parP g row).2 < 0:=by omega
    have hs:=hsol .nil []
    rw [show uL []=([]:List D) from rfl] at hs
    rw [hqo]
    simp (disch:=first | omega | assumption | (simp; done) | fail) [-List.all_eq_true,zmc,hd,zjN,hq,p0,zak (zc4 hxp),hs]
    cases zlv xp.2 [] (zg0 g row (rs.map (·.2)))<;>simp [-List.all_eq_true,solD,zgF]
   ·obtain ⟨xq,hxq⟩:∃ x,rs[(parP g row).2.toNat]? =some x:=⟨_,List.getElem?_eq_getElem (by omega)⟩
    have hqo:qOf g row (rs.map (·.2))=xq.2:=by unfold qOf; rw [if_neg (by omega)]; simp [List.getD_eq_getElem?_getD,hxq]
    have hq:¬ (parP g row).2 < 0:=by omega
    rw [hqo]
    simp (disch:=first | omega | assumption | (simp; done) | fail) [-List.all_eq_true,zmc,hd,zjN,hq,p0,q0,zak (zc4 hxp),zak (zc4 hxq),hsol]
    cases zlv xp.2 xq.2 (zg0 g row (rs.map (·.2)))<;>simp [-List.all_eq_true,solD,zgF]
 ·have h2:¬ (true=true∧(((rs.map (·.2)).length:Nat):Int)=g.d):=by rintro ⟨_,e⟩; simp at e; exact hl e
  rw [if_neg h2];simp [zoh,h,solD,hl]
theorem zGj (g:Geo) (row:Int) (tg:Tag) {ps:List Part} (hn:ps.length < 100000) (hs:∀ x∈ps,Sec x.2):
  zbA [.agg [.int .i64 g.l,.int .i64 g.d,.int .i64 g.c],.int .i64 row,.sl tg (pL ps)]=some (solD (zwB g row (ps.map (·.2)))):=by
 rw [zlH,zcV]
 have hlen:(ps.map fun x=>(zbN x.1 x.2,x.2)).length=ps.length:=by simp
 have hm:(ps.map fun x=>(zbN x.1 x.2,x.2)).map (·.2)=ps.map (·.2):=by rw [List.map_map]; rfl
 have hs':∀ x∈(ps.map fun x=>(zbN x.1 x.2,x.2)),Sec x.2:=by intro x hx; obtain ⟨y,hy,rfl⟩:=List.mem_map.1 hx; exact hs y hy
 rw [←hlen] at hn;rw [←hm]
 generalize (ps.map fun x=>(zbN x.1 x.2,x.2))=rs at*
 clear hm hlen hs ps;unfold zf1 zwB
 have hsl:∀ x∈rs.map (·.2),Sec x:=by intro x hx; obtain ⟨y,hy,rfl⟩:=List.mem_map.1 hx; exact hs' y hy
 have hl':∀ x∈rs,x.2.length=32:=fun x hx=>(hs' x hx).len
 have hall:((rs.map (·.2)).all fun x=>decide (x.length=32))=true:=by rw [List.all_eq_true]; intro x hx; simpa using (hsl x hx).len
 cases h:zcL g row
 ·simp [ztz,h,solD]
 by_cases hl:(rs.length:Int)=g.width
 ·rw [if_pos ⟨rfl,by simp [hl],hall⟩]
  obtain ⟨hk,r0,r1⟩:=zbz.1 h;have hw:=zca hk;have hdd:=ok_d hk
  have hb:((((pL rs).length:Nat):Int) != g.width)=false:=by simp [hl]
  have hrl:rs.length=g.width.toNat:=by omega
  rw [ztz,zab,zbe,h,Bool.not_true,zan,zjO,zab,zaX,hb,zan,zaa (by omega),zaa (by rfl),zaa (by omega),zaa (by omega),zaa (by simp)]
  let st:Nat→(Int×List D×(Int×Int×Int×PUnit)×List D×List D×Int×Int×PUnit)×PUnit:=fun k=>((row,pL rs,(g.l,g.d,g.c,PUnit.unit),pL (zih g row (rs.map (·.2)) k),pL rs,((pL rs).length:Int),(k:Int),PUnit.unit),PUnit.unit)
  have hst:st 0=((row,pL rs,(g.l,g.d,g.c,PUnit.unit),List.replicate g.d.toNat (D.sl .nil []),pL rs,((pL rs).length:Int),0,PUnit.unit),PUnit.unit):=by
   simp only [st,zih,zBy]; rfl
  rw [←hst]
  refine zb8 st rs.length (by omega) ?_ ?_
  ·intro again k hk';dsimp only [st];obtain ⟨x,hx⟩:∃ x,rs[k]? =some x:=⟨_,List.getElem?_eq_getElem hk'⟩;have hxs:=hl' x (List.mem_of_getElem? hx)
   have hxe:rs[k]=x:=by rw [List.getElem?_eq_getElem hk'] at hx; exact Option.some.inj hx
   have hdi:=zhR h (k:=(k:Int)) (by omega) (by omega)
   have hfl:=zgb g row (rs.map (·.2)) k
   obtain ⟨y,hy⟩:∃ y,(zih g row (rs.map (·.2)) k)[(zc1 g row (k:Int)).toNat]? =some y:=⟨_,List.getElem?_eq_getElem (by omega)⟩
   have hgd:(rs.map (·.2)).getD k []=x.2:=by simp [List.getD_eq_getElem?_getD,hx]
   have hgx:(pL rs)[k]? =some (.sl x.1 (uL x.2)):=zc4 hx
   have hlt:(zc1 g row (k:Int)).toNat < g.d.toNat:=by omega
   simp (disch:=first | omega | assumption | (simp; done) | fail) [-List.all_eq_true,hk',zak hgx,zza,hxs,hdi.1,hfl,hlt,zak (zc4 hy),zkB,zat,zpH,zih]
   rw [hxe]
  ·intro again;dsimp only [st];obtain ⟨p0,p1,p2⟩:=zlz h
   have hfl:=zgb g row (rs.map (·.2)) rs.length
   obtain ⟨y,hy⟩:∃ y,(zih g row (rs.map (·.2)) rs.length)[(parP g row).1.toNat]? =some y:=⟨_,List.getElem?_eq_getElem (by omega)⟩
   have hrp:=zKs (n:=32) .lent (ps:=rs) (by omega) (by omega) (by omega) hl'
   have hrq:=zKt (n:=32) .lent (ps:=rs) (by omega) (by omega) (by omega) hl'
   rw [zGg hsl] at hrp
   rw [zGh hsl (by simp; omega)] at hrq
   have hff:=zvs h (rs.map (·.2)) (sumP 32 (rs.map (·.2))) (sumQ 32 (rs.map (·.2))) rfl (.inl rfl)
   have hfree:=zrR (zvr g row (rs.map (·.2)) rs.length) (parP g row).1.toNat (sumP 32 (rs.map (·.2)))
   have hfree2:=zrR hfree (parP g row).2.toNat (sumQ 32 (rs.map (·.2)))
   have hlt:(parP g row).1.toNat < g.d.toNat:=by omega
   unfold zCv at hff;rw [←hrl] at hff;rcases p2 with ⟨p2,_⟩ | ⟨q0,q1,_⟩
   ·rw [if_pos (by omega)] at hff
    have hq:¬ (0≤(parP g row).2):=by omega
    simp (disch:=first | omega | assumption | (simp; done) | fail) [-List.all_eq_true,zBx,hrp,p0,hfl,hlt,zak (zc4 hy),zkB,hq,zpH,zmd hfree,solD,hff,zgF]
   ·rw [if_neg (by omega)] at hff
    have hlt2:(parP g row).2.toNat < g.d.toNat:=by omega
    obtain ⟨z,hz⟩:∃ z,((zih g row (rs.map (·.2)) rs.length).set (parP g row).1.toNat (Tag.fresh,sumP 32 (rs.map (·.2))))[(parP g row).2.toNat]? =some z:=⟨_,List.getElem?_eq_getElem (by simp [hfl]; omega)⟩
    simp (disch:=first | omega | assumption | (simp; done) | fail) [-List.all_eq_true,zBx,hrp,hrq,p0,q0,hfl,hlt,hlt2,zak (zc4 hy),zak (zc4 hz),zkB,zpH,zmd hfree,zmd hfree2,solD,hff,zgF]
 ·have h2:¬ (true=true∧(((rs.map (·.2)).length:Nat):Int)=g.width∧((rs.map (·.2)).all fun x=>decide (x.length=32))=true):=by rintro ⟨_,e,_⟩; simp at e; exact hl e
  rw [if_neg h2];simp [ztz,h,solD,zjO,hl]
end Wf

namespace Wf
open Go Go.RowKit Go.Proofs
set_option linter.unusedSimpArgs false
set_option linter.unusedVariables false
set_option maxHeartbeats 4000000
theorem zfM (live:List Bool):D.lentL (live.map D.bool)=live.map D.bool:=by
 induction live with
 | nil=>rfl
 | cons x l ih=>simp [ih]
theorem zme (acts:Nat→List Act):∀ (n k:Nat) (B:Ben),runE (fun k B=>runA (acts k) B) k n B=runA ((List.range' k n).flatMap acts) B
 | 0,k,B=>rfl
 | n+1,k,B=>by
  rw [List.range'_succ,List.flatMap_cons,zj4]
  show (if (runA (acts k) B).1=0 then _ else _)=_
  rw [zme acts n (k+1)]
theorem zmB (a:Act) (B:Ben):runA [a] B=B.act a:=by
 rw [zlw]
 by_cases h:(B.act a).1=0
 ·rw [if_pos h];show (0,(B.act a).2)=B.act a;rw [←h]
 ·rw [if_neg h]
section
variable {B:Ben} {d a e:Int} {x:List Int}
theorem ztA {s:DS} (hd:B.is d=true) (hf:s.failed=(B.dk d).failed):(B.setD d s).failed e=B.failed e:=by
 unfold Ben.failed;rw [zz2];cases he:B.is e
 ·rfl
 ·rw [ziR hd (zeL.1 he).1];split
  ·rename_i q; subst q; rw [hf]
  ·rfl
theorem zqI (B:Ben) (d a:Int) (x:List Int):(B.write d a x).2.n=B.n∧∀ e,(B.write d a x).2.failed e=B.failed e:=by
 unfold Ben.write;split
 ·exact ⟨rfl,fun _=>rfl⟩
 ·rename_i h0;have hd:=(may0.1 (Classical.not_not.1 h0)).1;split
  ·exact ⟨rfl,fun _=>rfl⟩
  ·split
   ·exact ⟨rfl,fun _=>rfl⟩
   ·exact ⟨by simp,fun e=>ztA (B:=(B.junk _).less) hd rfl⟩
theorem zvt (hB:B.Ok) (d:Int):(B.flush d).2.n=B.n∧∀ e,(B.flush d).2.failed e=B.failed e:=by
 unfold Ben.flush;split
 ·exact ⟨rfl,fun _=>rfl⟩
 ·rename_i h0;have hd:=(may0.1 (Classical.not_not.1 h0)).1
  refine ⟨by simp,fun e=>ztA hd ?_⟩
  unfold DS.flush;split
  ·rfl
  ·exact znc (zoU hB d).1
def Like (B B':Ben):Prop:=B'.n=B.n∧∀ e,B'.failed e=B.failed e
theorem Like.refl (B:Ben):Like B B:=⟨rfl,fun _=>rfl⟩
theorem Like.trans {A B C:Ben} (h1:Like A B) (h2:Like B C):Like A C:=⟨h2.1.trans h1.1,fun e=>(h2.2 e).trans (h1.2 e)⟩
theorem Like.up {B B':Ben} (h:Like B B') (live:List Bool) (e:Int):B'.up live e=B.up live e:=by unfold Ben.up; rw [h.1,h.2]
theorem zzd {B:Ben} {live:List Bool} {d:Int} (h:B.up live d=true):d < B.n:=by
 unfold Ben.up at h;simp only [Bool.and_eq_true,decide_eq_true_eq] at h;exact h.1
end
section
variable {T0 T1:Tb} {b:Nat} {idx:List Nat} {B:Ben}
end
end Wf

namespace Wf
open Go Go.RowKit Go.Proofs
set_option linter.unusedSimpArgs false
set_option linter.unusedVariables false
set_option maxHeartbeats 4000000
theorem zEG {p q:List Int} {ls o:List (List Int)} (h:zlv p q ls=some o):o.length=ls.length:=by
 unfold zlv at h;split at h
 ·cases h
 split at h
 ·cases h
 split at h
 ·cases h; simp [zdw]
 ·split at h
  ·cases h; simp [zdw]
  ·cases h; simp [zdw]
 ·cases h; simp [zdw]
theorem zGk {g:Geo} {r:Int} {ls o:List (List Int)} (h:zrg g r ls=some o):o.length=g.width.toNat:=by
 unfold zrg at h;split at h
 ·rw [zEG h]; simp [zg0]
 ·cases h
theorem zIl {g:Geo} {r j k:Int} (h:zcL g r=true) (j0:0≤j) (j1:j < g.width) (k0:0≤k) (k1:k < g.width) (e:numP g r j=numP g r k):j=k:=by
 have h1:=zG2 h j0 j1;have h2:=zG2 h k0 k1;rw [e,h2] at h1;injection h1 with h1 _;exact zsP h j0 j1 k0 k1 h1.symm
section
variable {T0 T1:Tb} {b:Nat} {idx:List Nat} {B:Ben}
theorem zIm {live:List Bool} {d a:Int} (hdn:B.down=false) (d0:0≤d) (hu:B.up live d=true) (a0:0≤a) (a1:a < 52):B.read d a=(B.cur d a,0):=by
 obtain ⟨h1,h2,_⟩:=zH9 d0 hu;rw [zgO h1] at h2;unfold Ben.read
 rw [if_neg (by rw [may0.2 ⟨h1,hdn⟩]; simp)]
 unfold DS.read
 rw [if_neg (by rw [znA.2 ⟨h2,a0,a1⟩]; simp)]
 rfl
theorem zEH {live:List Bool} {d:Int} (a:Int) (hdn:B.down=true) (d0:0≤d) (hu:B.up live d=true):B.read d a=([],6):=by
 obtain ⟨h1,h2,_⟩:=zH9 d0 hu
 have hm:B.may d=6:=by unfold Ben.may; rw [h1,hdn]; rfl
 unfold Ben.read;rw [hm]; simp
def Ben.secP (B:Ben) (live:List Bool) (r:Int) (n k:Nat):List Part:=(List.range n).map fun (d:Nat)=>if d < k then (if B.up live d then (Tag.fresh,B.cur d (36+r)) else (Tag.nil,[])) else (Tag.nil,[])
theorem zGl (live:List Bool) (r:Int) (n:Nat):(B.secP live r n n).map (·.2)=B.secs live r n:=by
 unfold Ben.secP Ben.secs;rw [List.map_map];apply List.map_congr_left;intro d hd;have:=List.mem_range.1 hd;simp only [Function.comp_apply,if_pos this];split<;>rfl
@[simp] theorem zxj (live:List Bool) (r:Int) (n k:Nat):(B.secP live r n k).length=n:=by simp [Ben.secP]
theorem zEI (live:List Bool) (r:Int) {n k:Nat} (hk:k < n) (hu:B.up live k=true):(B.secP live r n k).set k (Tag.fresh,B.cur k (36+r))=B.secP live r n (k+1):=by
 apply List.ext_getElem?;intro j;rw [List.getElem?_set];unfold Ben.secP
 by_cases hj:j < n
 ·by_cases hjk:k=j
  ·subst hjk; simp [hj,hu]
  ·rw [if_neg hjk];simp only [List.getElem?_map,List.getElem?_range hj,Option.map_some]
   by_cases h1:j < k
   ·simp only [if_pos h1,if_pos (show j < k+1 by omega)]
   ·simp only [if_neg h1,if_neg (show ¬ j < k+1 by omega)]
 ·have h1:k≠j:=by omega
  rw [if_neg h1,List.getElem?_eq_none (by simp; omega),List.getElem?_eq_none (by simp; omega)]
theorem zEJ (live:List Bool) (r:Int) {n k:Nat} (hk:k < n) (hu:B.up live k=false):B.secP live r n k=B.secP live r n (k+1):=by
 unfold Ben.secP;apply List.map_congr_left;intro j hj
 by_cases h1:j < k
 ·simp only [if_pos h1,if_pos (show j < k+1 by omega)]
 ·by_cases hjk:j=k
  ·subst hjk; simp [hu]
  ·simp only [if_neg h1,if_neg (show ¬ j < k+1 by omega)]
theorem zEK (live:List Bool) (r:Int) (n:Nat):pL (B.secP live r n 0)=List.replicate n (D.sl .nil []):=by
 unfold Ben.secP pL;rw [List.map_map];apply List.ext_getElem?;intro j
 by_cases hj:j < n
 ·simp [hj,uL]
 ·rw [List.getElem?_eq_none (by simp; omega),List.getElem?_eq_none (by simp; omega)]
theorem zIn (live:List Bool) (r:Int) {n k:Nat} (hk:k < n):(B.secP live r n k)[k]? =some (Tag.nil,[]):=by unfold Ben.secP; simp [hk]
theorem ztB (h:At T0 T1 b idx B) (hw:B.w≤1000000) (tg:Tag) (live:List Bool) (g:Geo) (r:Int):
  zcn [.h kB b 0,.sl tg (live.map D.bool),.agg [.int .i64 g.l,.int .i64 g.d,.int .i64 g.c],.int .i64 r] [P0 T0 b idx B,P1 T1 idx B]=
   some (Ans.mk (.tup [.sl .own (pL (fP (B.sRead live g r).1)),.int .i64 (B.sRead live g r).2]) [] []):=by
 rw [zru,zfM];unfold zkr Ben.sRead
 have hck:zaF [.agg [.int .i64 g.l,.int .i64 g.d,.int .i64 g.c]]=some (.int .i64 (if g.ok then 0 else 1)):=zjL g.l g.d g.c
 cases hk:g.ok
 ·have hf:zcL g r=false:=by unfold zcL; rw [hk]; rfl
  rw [hk] at hck;simp [hck,hf]; rfl
 rw [hk] at hck
 by_cases r0:r < 0
 ·have hf:zcL g r=false:=by unfold zcL; rw [hk]; simp; omega
  simp [hck,hf,r0]; rfl
 by_cases r1:r≥16
 ·have hf:zcL g r=false:=by unfold zcL; rw [hk]; simp; omega
  simp [hck,hf,r0,show 16≤r by omega]; rfl
 have hr:zcL g r=true:=zbz.2 ⟨hk,by omega,by omega⟩
 have hdd:=ok_d hk
 rw [if_neg (by simp [hr])]
 have r1':¬ 16≤r:=by omega
 simp (disch:=first | omega | assumption | (simp; done) | fail) only [hck,if_true,zab,zaX,zha,zfN,zaa,List.length_replicate,Nat.zero_add,Nat.le_refl]
 let st:Nat→(Nat×List D×Int×(Int×Int×Int×PUnit)×List D×Int×Int×PUnit)×List (List D)×List (List D)×PUnit:=fun k=>
  ((b,live.map D.bool,r,(g.l,g.d,g.c,PUnit.unit),pL (B.secP live r g.d.toNat k),((g.d.toNat:Nat):Int),(k:Int),PUnit.unit),P0 T0 b idx B,P1 T1 idx B,PUnit.unit)
 have hst:st 0=((b,live.map D.bool,r,(g.l,g.d,g.c,PUnit.unit),List.replicate g.d.toNat (D.sl .nil []),((g.d.toNat:Nat):Int),0,PUnit.unit),P0 T0 b idx B,P1 T1 idx B,PUnit.unit):=by
  simp only [st,zEK]; rfl
 rw [←hst]
 refine zfG (fun x=>g.d.toNat - x.1.2.2.2.2.2.2.1.toNat) (fun _=>_) (fun x=>∃ k:Nat,k≤g.d.toNat∧(B.down=true→∀ j:Nat,j < k→B.up live j=false)∧x=st k) ?_ ⟨0,by omega,fun _ j hj=>by omega,rfl⟩ (by simp [st]; omega)
 rintro again _ ⟨k,hk',hdn,rfl⟩ hag
 dsimp only [st]
 by_cases hlt:k < g.d.toNat
 ·have hup:=zKq h .lent live (d:=(k:Int)) (by omega)
  by_cases hu:B.up live (k:Int)=true
  ·rw [hu] at hup;cases hdo:B.down
   ·have hrd:=zBq h hw (k:Int) (36+r)
    rw [zIm hdo (by omega) hu (by omega) (by omega)] at hrd
    have hg:=zIn (B:=B) live r hlt
    have:=hag (st (k+1)) ⟨k+1,by omega,fun e=>(by rw [hdo] at e; cases e),rfl⟩ (by simp [st]; omega)
    dsimp only [st] at this;rw [←zEI live r hlt hu] at this
    simp (disch:=first | omega | assumption | (simp; done) | fail) [hlt,hup,hrd,zat,zxj,zak (zc4 hg),zkB,zpH]
    rw [show ((k+1:Nat):Int)=(k:Int)+1 by omega] at this
    simpa [hdo] using this
   ·have hrd:=zBq h hw (k:Int) (36+r)
    rw [zEH (36+r) hdo (by omega) hu] at hrd
    have hany:(List.range g.d.toNat).any (fun (d:Nat)=>B.up live d)=true:=by
     rw [List.any_eq_true]; exact ⟨k,List.mem_range.2 hlt,hu⟩
    rw [hany]
    simp (disch:=first | omega | assumption | (simp; done) | fail) [hlt,hup,hrd,zat]
    rfl
  ·have hu':B.up live (k:Int)=false:=by simpa using hu
   rw [hu'] at hup
   have:=hag (st (k+1)) ⟨k+1,by omega,fun e j hj=>by
    by_cases ej:j=k
    ·subst ej; exact hu'
    ·exact hdn e j (by omega),rfl⟩ (by simp [st]; omega)
   dsimp only [st] at this;rw [←zEJ live r hlt hu'] at this
   rw [show ((k+1:Nat):Int)=(k:Int)+1 by omega] at this
   simp (disch:=first | omega | assumption | (simp; done) | fail) [hlt,hup,zat]
   simpa using this
 ·have hke:k=g.d.toNat:=by omega
  have hno:¬ (B.down=true∧(List.range g.d.toNat).any (fun (d:Nat)=>B.up live d)=true):=by
   rintro ⟨e1,e2⟩
   rw [List.any_eq_true] at e2;obtain ⟨j,hj,hu⟩:=e2
   rw [hdn e1 j (by rw [hke]; exact List.mem_range.1 hj)] at hu; cases hu
  rw [if_neg hno]
  have htk:=zBB g r .lent (ps:=B.secP live r g.d.toNat g.d.toNat) (by rw [zxj]; omega)
  rw [zGl] at htk;subst hke
  simp (disch:=first | omega | assumption | (simp; done) | fail) [-List.all_eq_true,zmc,zxj,htk]
  cases zrg g r (B.secs live r g.d.toNat) with
  | none=>simp [-List.all_eq_true,solD]; rfl
  | some o=>simp [-List.all_eq_true,solD,zgF]
end
end Wf

namespace Wf
open Go Go.RowKit Go.Proofs
set_option linter.unusedSimpArgs false
set_option linter.unusedVariables false
set_option maxHeartbeats 4000000
def zqJ (w left:Int) (down:Bool) (hs:List D):List D:=[.int .i64 w,.int .i64 left,.bool down,.sl .own hs]
theorem ztC (m k:Nat):((List.range k).map fun j=>hD (m+j))++[hD (m+k)]=(List.range (k+1)).map fun j=>hD (m+j):=by simp [List.range_succ]
theorem zvu (l:List Nat):zdn (l.map hD)=true:=by simp only [zdn,List.all_map,List.all_eq_true]; intro i _; rfl
theorem zze (l:List Nat):zgg 1 (l.map hD)=true:=by simp only [zgg,List.all_map,List.all_eq_true]; intro i _; rfl
theorem zuo {α:Type} (k:Nat) (a:α):List.replicate k a++[a]=List.replicate (k+1) a:=by
 rw [List.replicate_succ']
theorem zGm (T0 T1:Tb) {n:Int} (h0:1≤n) (h1:n≤8):
  zbD [.int .i64 n] [T0,T1]=some (Ans.mk (.tup [.h kB T0.length 0,.int .i64 0]) []
   [T0++[zqJ 0 (-1) false ((List.range n.toNat).map fun j=>hD (T1.length+j))],T1++List.replicate n.toNat DS.new.cells]):=by
 rw [ztR];unfold znF
 have d1:decide (n < 1)=false:=by simp; omega
 have d2:decide (n > 8)=false:=by simp; omega
 rw [d1,zan,d2,zan,zp1]
 have hn:n=(n.toNat:Int):=by omega
 let st:Nat→(Nat×Int×Int×PUnit)×List (List D)×List (List D)×PUnit:=fun k=>
  ((T0.length,n,(k:Int),PUnit.unit),T0++[zqJ 0 (-1) false ((List.range k).map fun j=>hD (T1.length+j))],T1++List.replicate k DS.new.cells,PUnit.unit)
 have h00:st 0=((T0.length,n,0,PUnit.unit),T0++[[D.own0 (D.int IntKind.i64 (0:Int)),D.own0 (D.int IntKind.i64 (-1:Int)),D.own0 (D.bool false),D.own0 (D.sl Tag.nil [])]],T1,PUnit.unit):=by
  simp [st,zqJ,D.own0]
 rw [←h00]
 refine zct st n.toNat (by omega) ?_ ?_
 ·intro again k hk;dsimp only [st]
  have hd:decide ((k:Int) < n)=true:=by simp; omega
  have hrow:(T0++[zqJ 0 (-1) false ((List.range k).map fun j=>hD (T1.length+j))])[T0.length]? =some (zqJ 0 (-1) false ((List.range k).map fun j=>hD (T1.length+j))):=by simp
  have hnew:=zKp (T1++List.replicate k DS.new.cells)
  have hl:(T1++List.replicate k DS.new.cells).length=T1.length+k:=by simp
  rw [hl,List.append_assoc,zuo] at hnew;rw [hd,zaJ,zak hrow];unfold zqJ at hrow ⊢
  rw [zgN,zgN,zgN,zoL,zbl,hnew,zab,zaP,zbV,zaP,zaa (by rfl),zaa (by rfl),zak hrow,zgN,zgN,zgN,zoL,zbl]
  rw [zaa (by simp; omega),zaa (by rfl),zaa (by rfl),zp1,zzR hrow]
  have hset:=zmu hrow (List.set [D.int .i64 0,.int .i64 (-1),.bool false,.sl .own ((List.range k).map fun j=>hD (T1.length+j))] 3 .undef)
  have hsn:=ztC T1.length k;unfold hD at hsn
  have hH:(List.map (fun j=>hD (T1.length+j)) (List.range k))++[D.h kD (T1.length+k) 0]=(List.range (k+1)).map fun j=>hD (T1.length+j):=hsn
  dsimp only
  rw [zak hset,zaa (by simp),hH,zaa (by simp)]
  have e1:((List.range (k+1)).map fun j=>hD (T1.length+j))=((List.range (k+1)).map fun j=>T1.length+j).map hD:=by rw [List.map_map]; rfl
  rw [e1,zaa (zvu _),zaa (zze _),zp1,zap,zat (by omega) (by omega),zeK hset,←e1,List.set_set]
  simp [zqJ]
 ·intro again;dsimp only [st]
  have hd:decide (((n.toNat:Nat):Int) < n)=false:=by simp; omega
  rw [hd,zan]
def nIdx (T1:Tb) (n:Nat):List Nat:=(List.range n).map fun j=>T1.length+j
def nT0 (T0 T1:Tb) (n:Nat):Tb:=T0++[bRow (Ben.new n) (nIdx T1 n)]
def nT1 (T1:Tb) (n:Nat):Tb:=T1++List.replicate n DS.new.cells
theorem zIo (T1:Tb) (n:Nat):((List.range n).map fun j=>hD (T1.length+j))=(nIdx T1 n).map hD:=by unfold nIdx; rw [List.map_map]; rfl
theorem zEL (T0 T1:Tb) {n:Nat} (h8:n≤8):At (nT0 T0 T1 n) (nT1 T1 n) T0.length (nIdx T1 n) (Ben.new n):=by
 refine ⟨by simp [nT0],?_,fun i hi=>?_,by simp [nIdx,Ben.new],zu8 h8⟩
 ·unfold List.Nodup nIdx;rw [List.pairwise_map]
  exact List.Pairwise.imp (fun h e=>h (by omega)) (List.nodup_range (n:=n))
 ·unfold nIdx at hi;obtain ⟨j,hj,rfl⟩:=List.mem_map.1 hi;have:=List.mem_range.1 hj;simp [nT1]; omega
theorem zJL (T0 T1:Tb) (n:Nat):P0 (nT0 T0 T1 n) T0.length (nIdx T1 n) (Ben.new n)=nT0 T0 T1 n:=zz3 (by unfold nT0; simp)
theorem zJM (T1:Tb) (n:Nat):P1 (nT1 T1 n) (nIdx T1 n) (Ben.new n)=nT1 T1 n:=by
 unfold P1;show putL _ _ _++[]=_;rw [List.append_nil]
 refine zoX fun j i c h1 h2=>?_
 have hj:j < n:=by have:=za5 h1; simpa [nIdx] using this
 have e1:i=T1.length+j:=by
  unfold nIdx at h1;rw [List.getElem?_map,List.getElem?_range hj] at h1;simpa using h1.symm
 have e2:c=DS.new.cells:=by
  have:(Ben.new n).ds.map DS.cells=List.replicate n DS.new.cells:=by unfold Ben.new; simp
  rw [this] at h2;rw [List.getElem?_replicate,if_pos hj] at h2;exact (Option.some.inj h2).symm
 subst e1 e2;unfold nT1
 rw [List.getElem?_append_right (by omega),show T1.length+j - T1.length=j by omega,List.getElem?_replicate,if_pos hj]
theorem zJN (T0 T1:Tb) {n:Nat} (h0:1≤n) (h8:n≤8):
  zbD [.int .i64 n] [T0,T1]=some (Ans.mk (.tup [.h kB T0.length 0,.int .i64 0]) [] [P0 (nT0 T0 T1 n) T0.length (nIdx T1 n) (Ben.new n),P1 (nT1 T1 n) (nIdx T1 n) (Ben.new n)]):=by
 rw [zGm T0 T1 (by omega) (by omega),zJL,zJM,Int.toNat_natCast,zIo]
 rfl
structure Still (B:Ben):Prop where
 ok:B.Ok
 down:B.down=false
 ds:∀ s∈B.ds,s.failed=false∧s.pend=[]
theorem Still.dk {B:Ben} (h:Still B) (d:Int):(B.dk d).failed=false∧(B.dk d).pend=[]:=by
 unfold Ben.dk
 cases e:B.ds[d.toNat]? with
 | none=>exact ⟨rfl,rfl⟩
 | some s=>exact h.ds s (List.mem_of_getElem? e)
theorem Still.failed {B:Ben} (h:Still B) (d:Int):B.failed d=false:=by unfold Ben.failed; rw [(h.dk d).1,Bool.and_false]
theorem zzf {n:Nat} (h:n≤8):Still (Ben.new n):=⟨zu8 h,rfl,fun s hs=>by
 unfold Ben.new at hs;rw [(List.mem_replicate.1 hs).2]; exact ⟨rfl,rfl⟩⟩
theorem zJO (n:Nat) (d:Int):(Ben.new n).dk d=DS.new:=by
 unfold Ben.dk Ben.new;dsimp only;rw [List.getElem?_replicate];split<;>rfl
theorem zGn {a:Nat} (ha:a < 52):DS.new.base a=zft:=by
 unfold DS.base;show ((List.replicate 1664 (0:Int)).drop (a*32)).take 32=_;rw [List.drop_replicate,List.take_replicate];unfold zft;congr 1;omega
theorem zEM (n:Nat) (d:Int) {a:Int} (a0:0≤a) (a1:a < 52):(Ben.new n).cur d a=zft:=by
 unfold Ben.cur;rw [zJO];show look [] a (DS.new.base a.toNat)=_
 rw [zrO,zGn (by omega)]
section
variable {B:Ben} {d a:Int} {x:List Int}
theorem zzg (h:Still B) (hx:Sec x):Still (B.damage d a x).2∧(B.damage d a x).2.n=B.n∧(B.damage d a x).2.w=B.w∧(B.damage d a x).2.left=B.left:=by
 refine ⟨⟨(zyy h.ok (.inl hx)).ok,?_,?_⟩,(zyy (d:=d) (a:=a) h.ok (.inl hx)).n,?_,?_⟩
 ·unfold Ben.damage; split<;>exact h.down
 ·unfold Ben.damage;split
  ·intro s hs;rcases List.mem_or_eq_of_mem_set hs with hs | hs
   ·exact h.ds s hs
   ·subst hs;unfold DS.damage;dsimp only;split
    ·exact h.dk d
    ·exact h.dk d
  ·exact h.ds
 ·unfold Ben.damage; split<;>rfl
 ·unfold Ben.damage; split<;>rfl
theorem zCw (h:Still B) (hd:B.is d=true) (a0:0≤a) (a1:a < 52) (hx:Sec x) {e b:Int} (e0:0≤e) (b0:0≤b) (b1:b < 52):
  (B.damage d a x).1=0∧(B.damage d a x).2.cur e b=if e=d∧b=a then x else B.cur e b:=by
 have hk:=h.dk d;have hw:(B.dk d).mayW a x=0:=zD2 (znA.2 ⟨hk.1,a0,a1⟩) hx.len
 have e1:(B.dk d).damage a x=(0,(B.dk d).setSec a.toNat x):=by unfold DS.damage; rw [hw,if_pos rfl]
 unfold Ben.damage;rw [if_pos hd,e1];refine ⟨rfl,?_⟩;unfold Ben.cur;rw [ziR hd e0]
 by_cases he:e=d
 ·subst he;rw [if_pos rfl];have hp:((B.dk e).setSec a.toNat x).pend=[]:=hk.2;unfold DS.sec
  rw [hp,hk.2,zrO,zrO,zsL (zoU h.ok e).1.len (by omega) hx.len b.toNat (by omega)]
  by_cases hb:b=a
  ·rw [if_pos (by omega),if_pos ⟨rfl,hb⟩]
  ·rw [if_neg (by omega),if_neg (fun q=>hb q.2)]
 ·rw [if_neg he,if_neg (fun q=>he q.1)]
end
def Ben.dmgs (B:Ben) (a:Int) (xs:List (List Int)):Nat→Ben
 | 0=>B
 | k+1=>((B.dmgs a xs k).damage (k:Int) a (xs.getD k [])).2
def rowL (g:Geo) (l:List Int) (r:Nat):List (List Int):=secL (l.drop (min r l.length)) g.width.toNat
theorem zxk {g:Geo} (hk:g.ok=true) (l:List Int) (r:Nat):Row g (rowL g l r):=⟨by have:=zca hk; simp [rowL]; omega,zBw _ _⟩
def zmf (gs:Nat→Geo) (l:List Int) (n:Nat):Nat→Ben
 | 0=>.new n
 | r+1=>(zmf gs l n r).dmgs (36+(r:Int)) (zcC (gs r) r (rowL (gs r) l r)) (min (gs r).d.toNat n)
structure Filld (gs:Nat→Geo) (l:List Int) (n:Nat) (R:Nat) (B:Ben):Prop where
 still:Still B
 num:B.n=n
 w:B.w=0
 left:B.left= -1
 cur:∀ d a:Int,0≤d→0≤a→a < 52→B.cur d a=if 36≤a∧a < 36+R∧d < (gs (a - 36).toNat).d∧d < n then atR (gs (a - 36).toNat) (a - 36) (rowL (gs (a - 36).toNat) l (a - 36).toNat) d else zft
theorem zoi {g:Geo} {r:Int} {data:List (List Int)} {d:Nat} (h:(d:Int) < g.d):(zcC g r data).getD d []=atR g r data d:=by
 rw [List.getD_eq_getElem?_getD,zp8 h]; rfl
theorem zqK {gs:Nat→Geo} {l:List Int} {n R:Nat} {B:Ben} (h:Filld gs l n R B) (hR:R < 16) (hk:(gs R).ok=true):∀ k,k≤min (gs R).d.toNat n→
  Still (B.dmgs (36+(R:Int)) (zcC (gs R) R (rowL (gs R) l R)) k)∧(B.dmgs (36+(R:Int)) (zcC (gs R) R (rowL (gs R) l R)) k).n=n∧(B.dmgs (36+(R:Int)) (zcC (gs R) R (rowL (gs R) l R)) k).w=0∧(B.dmgs (36+(R:Int)) (zcC (gs R) R (rowL (gs R) l R)) k).left= -1∧
  ∀ d a:Int,0≤d→0≤a→a < 52→(B.dmgs (36+(R:Int)) (zcC (gs R) R (rowL (gs R) l R)) k).cur d a=if a=36+R∧d < k then atR (gs R) R (rowL (gs R) l R) d else B.cur d a
 | 0,_=>⟨h.still,h.num,h.w,h.left,fun d a d0 a0 a1=>by rw [if_neg (by omega)]; rfl⟩
 | k+1,hk'=>by
  obtain ⟨i1,i2,i3,i4,i5⟩:=zqK h hR hk k (by omega)
  have hr:zcL (gs R) (R:Int)=true:=zbz.2 ⟨hk,by omega,by omega⟩
  have hsec:=zyE hr (zxk hk l R) (d:=(k:Int)) (by omega) (by omega)
  have hg:=zoi (g:=gs R) (r:=R) (data:=rowL (gs R) l R) (d:=k) (by omega)
  generalize hB:B.dmgs (36+(R:Int)) (zcC (gs R) R (rowL (gs R) l R)) k=C at*
  have hC:B.dmgs (36+(R:Int)) (zcC (gs R) R (rowL (gs R) l R)) (k+1)=(C.damage (k:Int) (36+(R:Int)) (atR (gs R) R (rowL (gs R) l R) k)).2:=by
   show ((B.dmgs (36+(R:Int)) (zcC (gs R) R (rowL (gs R) l R)) k).damage (k:Int) (36+(R:Int)) ((zcC (gs R) R (rowL (gs R) l R)).getD k [])).2=_;rw [hB,hg]
  rw [hC]
  have hd:C.is (k:Int)=true:=zeL.2 ⟨by omega,by rw [i2]; omega⟩
  obtain ⟨j1,j2,j3,j4⟩:=zzg (d:=(k:Int)) (a:=36+(R:Int)) i1 hsec
  refine ⟨j1,j2.trans i2,j3.trans i3,j4.trans i4,fun d a d0 a0 a1=>?_⟩
  rw [(zCw i1 hd (by omega) (by omega) hsec d0 a0 a1).2,i5 d a d0 a0 a1]
  by_cases ha:a=36+(R:Int)
  ·by_cases hdk:d=k
   ·subst hdk; rw [if_pos ⟨rfl,ha⟩,if_pos ⟨ha,by omega⟩]
   ·rw [if_neg (fun q=>hdk q.1)]
    by_cases hlt:d < k
    ·rw [if_pos ⟨ha,hlt⟩,if_pos ⟨ha,by omega⟩]
    ·rw [if_neg (fun q=>hlt q.2),if_neg (fun q=>by omega)]
  ·rw [if_neg (fun q=>ha q.2),if_neg (fun q=>ha q.1),if_neg (fun q=>ha q.1)]
theorem zmg {gs:Nat→Geo} {l:List Int} {n:Nat} (n8:n≤8) (hk:∀ r,(gs r).ok=true):∀ R,R≤16→Filld gs l n R (zmf gs l n R)
 | 0,_=>⟨zzf n8,by simp [zmf,Ben.new,Ben.n],rfl,rfl,fun d a d0 a0 a1=>by rw [if_neg (by omega)]; exact zEM n d a0 a1⟩
 | R+1,hR=>by
  have ih:=zmg (l:=l) n8 hk R (by omega)
  obtain ⟨i1,i2,i3,i4,i5⟩:=zqK ih (by omega) (hk R) (min (gs R).d.toNat n) (Nat.le_refl _)
  refine ⟨i1,i2,i3,i4,fun d a d0 a0 a1=>?_⟩
  show ((zmf gs l n R).dmgs (36+(R:Int)) (zcC (gs R) R (rowL (gs R) l R)) (min (gs R).d.toNat n)).cur d a=_;rw [i5 d a d0 a0 a1,ih.cur d a d0 a0 a1];have hdd:=ok_d (hk R)
  by_cases ha:a=36+(R:Int)
  ·have e:(a - 36).toNat=R:=by omega
   have e2:a - 36=(R:Int):=by omega
   rw [e,e2]
   by_cases hlt:d < (gs R).d∧d < n
   ·rw [if_pos ⟨ha,by omega⟩,if_pos ⟨by omega,by omega,hlt.1,hlt.2⟩]
   ·rw [if_neg (fun q=>hlt ⟨by omega,by omega⟩),if_neg (fun q=>by omega),if_neg (fun q=>hlt ⟨q.2.2.1,q.2.2.2⟩)]
  ·rw [if_neg (fun q=>ha q.1)]
   by_cases hc:36≤a∧a < 36+(R:Int)∧d < (gs (a - 36).toNat).d∧d < n
   ·rw [if_pos hc,if_pos ⟨hc.1,by omega,hc.2.2.1,hc.2.2.2⟩]
   ·rw [if_neg hc,if_neg (fun q=>hc ⟨q.1,by omega,q.2.2.1,q.2.2.2⟩)]
end Wf

namespace Wf
open Go Go.RowKit Go.Proofs
set_option linter.unusedSimpArgs false
set_option linter.unusedVariables false
set_option maxHeartbeats 4000000
theorem zEN (l:List Int) (n:Nat):(intL l).drop n=intL (l.drop n):=by simp [intL,List.map_drop]
theorem zCx (l:List Int):zrf 1 (intL l)=true:=by simp [zrf,intL,D.cell,D.width]
theorem zEO (l:List Int) (r:Int) (r0:0≤r):cutI (min r (l.length:Int)) (l.length:Int) (intL l)=intL (l.drop (min r.toNat l.length)):=by
 unfold cutI
 have:(min r (l.length:Int)).toNat=min r.toNat l.length:=by omega
 rw [this,zEN,List.take_of_length_le (by rw [zc8]; simp; omega)]
section
variable {T0 T1:Tb}
theorem zJP {g:Geo} (hk:g.ok=true) {n:Nat} (n0:1≤n) (n8:n≤8) (tg:Tag) (l:List Int):
  zbd [.agg [.int .i64 g.l,.int .i64 g.d,.int .i64 g.c],.int .i64 n,.sl tg (intL l)] [T0,T1]=
   some (Ans.mk (.h kB T0.length 0) [] [P0 (nT0 T0 T1 n) T0.length (nIdx T1 n) (zmf (fun _=>g) l n 16),P1 (nT1 T1 n) (nIdx T1 n) (zmf (fun _=>g) l n 16)]):=by
 rw [zkk,zjl];unfold zfb;have hat0:=zEL T0 T1 n8;have hnew:=zJN T0 T1 n0 n8;generalize nT0 T0 T1 n=U0 at*;generalize nT1 T1 n=U1 at*;generalize nIdx T1 n=idx at*;have hw:=zca hk;have hdd:=ok_d hk
 have hF:=fun R hR=>zmg (gs:=fun _=>g) (l:=l) n8 (fun _=>hk) R hR
 have hat:∀ B:Ben,B.Ok→B.n=n→At U0 U1 T0.length idx B:=fun B hB hn=>⟨hat0.b,hat0.nd,hat0.lt,by rw [hat0.len]; unfold Ben.n at hn; simp [Ben.new]; omega,hB⟩
 simp (disch:=first | omega | assumption | (simp; done) | fail) only [hnew,zab,zaP,zbV,zdm,zzc,zaX,zha,zwh,zan,show zjh (D.h kB T0.length 0)=true from rfl,zaa]
 let st:Nat→(Int×List D×(Int×Int×Int×PUnit)×D×Int×PUnit)×List (List D)×List (List D)×PUnit:=fun r=>(((n:Int),intL l,(g.l,g.d,g.c,PUnit.unit),.h kB T0.length 0,(r:Int),PUnit.unit),P0 U0 T0.length idx (zmf (fun _=>g) l n r),P1 U1 idx (zmf (fun _=>g) l n r),PUnit.unit)
 show zb1 _ (st 0)=_
 refine zb8 st 16 (by omega) ?_ ?_
 ·intro again r hr;dsimp only [st]
  have hfine:zcL g (r:Int)=true:=zbz.2 ⟨hk,by omega,by omega⟩
  have hm1:0≤min (r:Int) (l.length:Int):=by omega
  have hm2:min (r:Int) (l.length:Int)≤(l.length:Int):=by omega
  have hsp:=fun tg=>zy8 tg (l.drop (min r l.length)) (n:=g.width.toNat) (by omega)
  rw [show ((g.width.toNat:Nat):Int)=g.width by omega] at hsp
  have hc:=zEO l (r:Int) (by omega)
  rw [Int.toNat_natCast] at hc
  have hfill:=zGj g (r:Int) .lent (ps:=fP (rowL g l r)) (by simp [rowL]; omega) (by intro x hx; obtain ⟨y,hy,rfl⟩:=List.mem_map.1 hx; exact zBw _ _ y hy)
  rw [zpJ,zEf hfine (zxk hk l r)] at hfill;have hrl:=zhA g (r:Int) (rowL g l r)
  have hr16:(r:Int) < 16:=by omega
  unfold rowL at hfill
  simp (disch:=first | omega | assumption | (simp; done) | fail) only [zlq,zap,zc8,zaa,zCx,zjO,zab,zaX,hc,hsp,zbl,zbW,Nat.zero_add,Nat.le_refl,hfill,solD,zdm,zzc,zbe]
  have hxs:secL (l.drop (min r l.length)) g.width.toNat=rowL g l r:=rfl;rw [hxs]
  have hFr:=hF r (by omega)
  have hdm:=fun k hk'=>zqK (gs:=fun _=>g) hFr hr hk k hk'
  have hnx:zmf (fun _=>g) l n (r+1)=(zmf (fun _=>g) l n r).dmgs (36+(r:Int)) (zcC g r (rowL g l r)) (min g.d.toNat n):=rfl
  rw [hnx]
  generalize zmf (fun _=>g) l n r=B at*
  have h0:∀ k,k≤min g.d.toNat n→P0 U0 T0.length idx (B.dmgs (36+(r:Int)) (zcC g r (rowL g l r)) k)=P0 U0 T0.length idx B:=by
   intro k hk'
   induction k with
   | zero=>rfl
   | succ k ih=>
    rw [←ih (by omega)]
    show P0 U0 T0.length idx ((B.dmgs (36+(r:Int)) (zcC g r (rowL g l r)) k).damage _ _ _).2=_;unfold Ben.damage;split<;>rfl
  let s2:Nat→(Int×List D×(Int×Int×Int×PUnit)×D×Int×List D×Bool×Int×PUnit)×List (List D)×List (List D)×PUnit:=fun k=>
   (((n:Int),intL l,(g.l,g.d,g.c,PUnit.unit),.h kB T0.length 0,(r:Int),pL (fP (zcC g r (rowL g l r))),true,(k:Int),PUnit.unit),P0 U0 T0.length idx B,P1 U1 idx (B.dmgs (36+(r:Int)) (zcC g r (rowL g l r)) k),PUnit.unit)
  show zb1 _ (s2 0)=_
  refine zb8 s2 (min g.d.toNat n) (by omega) ?_ ?_
  ·intro again2 k hk';dsimp only [s2]
   obtain ⟨i1,i2,i3,i4,i5⟩:=hdm k (by omega)
   have hA:=hat _ i1.ok i2
   have hg:(pL (fP (zcC g r (rowL g l r))))[k]? =some (.sl .fresh (uL (atR g r (rowL g l r) k))):=zc4 (zBr (zp8 (by omega)))
   have hb:=zGb hA (by omega) (k:Int) (a:=36+(r:Int)) (by intro w hw; rw [(i1.dk _).2] at hw; cases hw) .fresh (atR g r (rowL g l r) k)
   rw [h0 k (by omega)] at hb
   have hgd:(zcC g r (rowL g l r)).getD k []=atR g r (rowL g l r) k:=zoi (by omega)
   have h1:(k:Int) < ((g.d.toNat:Nat):Int):=by omega
   have h2:(k:Int) < (n:Int):=by omega
   have h3:k < g.d.toNat:=by omega
   simp (disch:=first | omega | assumption | (simp; done) | fail) [hrl,h1,h2,h3,zak hg,hb,zat]
   rw [←hgd]; rfl
  ·intro again2;dsimp only [s2];rw [h0 _ (Nat.le_refl _)]
   by_cases h1:min g.d.toNat n < g.d.toNat
   ·have h2:¬ ((min g.d.toNat n:Nat):Int) < (n:Int):=by omega
    have h1':((min g.d.toNat n:Nat):Int) < ((g.d.toNat:Nat):Int):=by omega
    simp (disch:=first | omega | assumption | (simp; done) | fail) only [zaJ,hrl,zer,zhm,zaa,Nat.zero_add,Nat.le_refl,zlq,zfN,zys]
    rw [zat (by omega) (by omega)]; rfl
   ·have h1':¬ ((min g.d.toNat n:Nat):Int) < ((g.d.toNat:Nat):Int):=by omega
    simp (disch:=first | omega | assumption | (simp; done) | fail) only [zaJ,hrl,zer,zhm,zaa,Nat.zero_add,Nat.le_refl,zfN,zys]
    rw [zat (by omega) (by omega)]; rfl
 ·intro again;dsimp only [st]
  simp (disch:=first | omega | assumption | (simp; done) | fail) only [zfN,show (D.h kB T0.length 0).free=true from rfl,zaa]
end
end Wf

namespace Wf
open Go Go.RowKit Go.Proofs
set_option linter.unusedSimpArgs false
set_option linter.unusedVariables false
set_option maxHeartbeats 4000000
theorem zEP {p:Nat→Bool} {a n:Nat} (h:∀ i,i < n→p i=true→i=a):(List.range n).countP p≤1:=by
 have:∀ n,(∀ i,i < n→p i=true→i=a)→(List.range n).countP p≤if a < n then 1 else 0:=by
  intro n
  induction n with
  | zero=>simp
  | succ n ih=>
   intro h
   have ih:=ih fun i hi hp=>h i (by omega) hp
   rw [List.range_succ,List.countP_append,List.countP_singleton]
   by_cases hp:p n=true
   ·rw [if_pos hp]
    have e:=h n (by omega) hp
    subst e; rw [if_neg (by omega)] at ih; rw [if_pos (by omega)]; omega
   ·rw [if_neg hp];split at ih<;>split<;>omega
 have:=this n h;split at this<;>omega
section
variable {B:Ben} {d a:Int}
theorem zGo (hd:B.is d=true) {e b:Int} (e0:0≤e) (hne:e≠d):(B.fail d).2.cur e b=B.cur e b:=by
 unfold Ben.fail;rw [if_pos hd];unfold Ben.cur;rw [ziR hd e0,if_neg hne]
theorem zAv (hd:B.is d=true) {e:Int} (he:B.is e=true):(B.fail d).2.failed e=(decide (e=d) || B.failed e):=by
 unfold Ben.fail;rw [if_pos hd];unfold Ben.failed;rw [zz2,he,ziR hd (zeL.1 he).1]
 by_cases h:e=d
 ·subst h; rw [if_pos rfl,show DS.dead.failed=true from rfl]; simp
 ·rw [if_neg h]; simp [h]
theorem zEQ (hd:B.is d=true):(B.fail d).1=0∧(B.fail d).2.n=B.n∧(B.fail d).2.down=B.down∧(B.fail d).2.left=B.left∧(B.fail d).2.w=B.w:=by
 unfold Ben.fail;rw [if_pos hd]
 exact ⟨rfl,by simp,rfl,rfl,rfl⟩
end
theorem zGp {n:Nat} {d:Int} (d0:0≤d):((List.replicate n true)[d.toNat]?).getD false=decide (d < n):=by
 rw [List.getElem?_replicate]
 by_cases h:d < n
 ·rw [if_pos (by omega)]; simp [h]
 ·rw [if_neg (by omega)]; simp [h]
theorem zER {B:Ben} {n:Nat} (hn:B.n=n) {d:Int} (d0:0≤d):B.up (List.replicate n true) d=(decide (d < n) && !B.failed d):=by
 unfold Ben.up;rw [zGp d0,hn];cases decide (d < (n:Int))<;>simp
theorem zGq (B:Ben) (live:List Bool):nW (B.fActs live)=0:=by
 unfold Ben.fActs nW;rw [List.length_eq_zero_iff,List.filter_eq_nil_iff];intro a ha;obtain ⟨d,_,ha⟩:=List.mem_flatMap.1 ha;split at ha
 ·rw [List.mem_singleton.1 ha]; simp [Act.isW]
 ·cases ha
theorem zBC (f:Nat→Int) {n:Nat}:sumK f 32 (List.replicate n zft) n=zft:=by
 have hs:∀ l∈List.replicate n zft,l.length=32:=by intro l hl; rw [(List.mem_replicate.1 hl).2]; exact zjn.len
 have hl:(sumK f 32 (List.replicate n zft) n).length=32:=zmw hs (by simp)
 refine zDV (by rw [hl,zjn.len]) fun i hi=>?_
 rw [hl] at hi
 rw [zu4 hs hi (by simp),zlt]
 have:∀ k,k≤n→xsum (fun j=>mul8 (getB ((List.replicate n zft).getD j []) i) (f j)) k=0:=by
  intro k
  induction k with
  | zero=>intro _; rfl
  | succ k ih=>
   intro hk
   have e:(List.replicate n zft).getD k []=zft:=by rw [List.getD_eq_getElem?_getD,List.getElem?_replicate,if_pos (by omega)]; rfl
   show xor8 (xsum _ k) (mul8 (getB ((List.replicate n zft).getD k []) i) (f k))=0
   rw [ih (by omega),e,zlt,zoR]; rfl
 exact this n (Nat.le_refl _)
def zoj (g:Geo):List (List Int):=List.replicate g.width.toNat zft
theorem zGr {g:Geo} (hk:g.ok=true):Row g (zoj g):=⟨by have:=zca hk; simp [zoj]; omega,fun x hx=>by rw [(List.mem_replicate.1 hx).2]; exact zjn⟩
theorem zIp {g:Geo} {r d:Int} (hr:zcL g r=true) (d0:0≤d) (d1:d < g.d):atR g r (zoj g) d=zft:=by
 unfold atR;split
 ·unfold sumP zoj; rw [List.length_replicate]; exact zBC _
 ·rename_i h1;split
  ·unfold sumQ zoj; rw [List.length_replicate]; exact zBC _
  ·rename_i h2;obtain ⟨c0,c1,_⟩:=zj6 hr d0 d1 h1 h2;unfold zoj
   rw [List.getD_eq_getElem?_getD,List.getElem?_replicate,if_pos (by omega)]; rfl
end Wf

namespace Wf
open Go Go.RowKit Go.Proofs
set_option linter.unusedSimpArgs false
set_option linter.unusedVariables false
set_option maxHeartbeats 4000000
theorem zCy (l:List Bool):(l.map D.bool).all D.free=true:=by rw [List.all_map,List.all_eq_true]; intro b _; rfl
theorem zCz {d k:Nat} (hk:k < d):((List.range d).map fun i=>D.bool (decide (i < k))).set k (.bool true)=(List.range d).map fun i=>D.bool (decide (i < k+1)):=by
 apply List.ext_getElem?;intro j;rw [List.getElem?_set]
 by_cases hj:j < d
 ·by_cases hjk:k=j
  ·subst hjk; simp [hj]
  ·rw [if_neg hjk];simp only [List.getElem?_map,List.getElem?_range hj,Option.map_some,Option.some.injEq,D.bool.injEq,decide_eq_decide];omega
 ·have h1:k≠j:=by omega
  rw [if_neg h1,List.getElem?_eq_none (by simp; omega),List.getElem?_eq_none (by simp; omega)]
theorem zGs {d:Nat} (h0:1≤d) (h8:d≤8):zbK [.int .i64 0,.int .i64 d]=some (.sl .own ((List.replicate d true).map D.bool)):=by
 rw [zmV];unfold zgy
 rw [zaa (by omega),zaa (by rfl),zaa (by omega),zaa (by omega),zaa (by simp),zaa (by simp),Int.toNat_natCast]
 let st:Nat→(Int×Int×List D×Int×Int×PUnit)×PUnit:=fun k=>((0,(d:Int),(List.range d).map (fun i=>D.bool (decide (i < k))),(d:Int),(k:Int),PUnit.unit),PUnit.unit)
 have hst:st 0=((0,(d:Int),List.replicate d (D.bool false),(d:Int),0,PUnit.unit),PUnit.unit):=by
  have:(List.range d).map (fun i=>D.bool (decide (i < 0)))=List.replicate d (D.bool false):=by
   apply List.ext_getElem?; intro j
   by_cases hj:j < d
   ·simp [hj]
   ·rw [List.getElem?_eq_none (by simp; omega),List.getElem?_eq_none (by simp; omega)]
  simp only [st,this]; rfl
 rw [←hst]
 refine zct st d (by omega) ?_ ?_
 ·intro again k hk;dsimp only [st]
  have hd:decide ((k:Int) < (d:Int))=true:=by simp; omega
  have hg:((List.range d).map (fun i=>D.bool (decide (i < k))))[k]? =some (.bool false):=by simp [hk]
  rw [hd,zaJ,zaa (by omega),zaa (by simp; omega),Nat.zero_add,show Int.toNat (k:Int)=k from rfl,zak hg,zaa (by rfl),zap,zat (by omega) (by omega),zaa (by simp),zCz hk]
  rfl
 ·intro again;dsimp only [st]
  have hd:decide ((d:Int) < (d:Int))=false:=by simp
  have hd1:decide ((d:Int) > 0)=true:=by simp; omega
  have hall:(List.range d).map (fun i=>D.bool (decide (i < d)))=(List.replicate d true).map D.bool:=by
   apply List.ext_getElem?; intro j
   by_cases hj:j < d
   ·simp [hj]
   ·rw [List.getElem?_eq_none (by simp; omega),List.getElem?_eq_none (by simp; omega)]
  have hz:decide ((0:Int) % 3 > 0)=false:=rfl;have hz2:((0:Int) % 9 == 8)=false:=rfl
  rw [hd,zan,hd1,zaJ,zxb 0 3 (by omega) (by omega),zab,zaX,hz,zan,zaJ,zxb 0 9 (by omega) (by omega),zab,zaX,hz2,zan,zaa (by rfl),hall,zaa (zCy _)]
end Wf

namespace Wf
open Go Go.RowKit
universe u
def idf {α:Sort u} (a:α):α:=a
@[simp] theorem zdV {α:Sort u} (a:α):idf a=a:=congrFun (funext fun _=>rfl) a
section
variable {R α β:Type}
@[congr high] theorem zJ6 {b b':Bool} {x y:Option R} (h:idf b=b'):brK b x y=brK b' x y:=by rw [zdV] at h; rw [h]
@[congr high] theorem zIS {x x':Option α} {f:α→Option R} (h:idf x=x'):zar x f=zar x' f:=by rw [zdV] at h; rw [h]
@[congr high] theorem zJ7 {c c':Prop} [d:Decidable c] [d':Decidable c'] {x:Option R} (h:idf c=c'):sif c x=sif c' x:=by rw [zdV] at h; subst h; congr
@[congr high] theorem zJQ {n n':Int} {f:Int→Option R} (h:idf n=n'):letN n f=letN n' f:=by rw [zdV] at h; rw [h]
@[congr high] theorem zJR {l l':List α} {i i':Nat} {f:α→Option R} (h:idf l=l') (h':idf i=i'):getK l i f=getK l' i' f:=by rw [zdV] at h h'; rw [h,h']
@[congr high] theorem zJ8 {k:IntKind} {d d':D} {f:Int→Option R} (h:idf d=d'):asI k d f=asI k d' f:=by rw [zdV] at h; rw [h]
@[congr high] theorem zJ9 {d d':D} {f:Bool→Option R} (h:idf d=d'):asB d f=asB d' f:=by rw [zdV] at h; rw [h]
@[congr high] theorem zKa {d d':D} {f:ByteArray→Option R} (h:idf d=d'):asS d f=asS d' f:=by rw [zdV] at h; rw [h]
@[congr high] theorem zJS {d d':D} {f:Tag→List D→Option R} (h:idf d=d'):asSl d f=asSl d' f:=by rw [zdV] at h; rw [h]
@[congr high] theorem zIT {d d':D} {f:List D→Option R} (h:idf d=d'):zbi d f=zbi d' f:=by rw [zdV] at h; rw [h]
@[congr high] theorem zIq {d d':D} {f:List D→Option R} (h:idf d=d'):zm9 d f=zm9 d' f:=by rw [zdV] at h; rw [h]
@[congr high] theorem zIU {d d':D} {f:List D→Option R} (h:idf d=d'):asAgg d f=asAgg d' f:=by rw [zdV] at h; rw [h]
@[congr high] theorem zIV {d d':D} {f:List D→Option R} (h:idf d=d'):zej d f=zej d' f:=by rw [zdV] at h; rw [h]
@[congr high] theorem zJT {d d':D} {f:D→Option R} (h:idf d=d'):asAt d f=asAt d' f:=by rw [zdV] at h; rw [h]
@[congr high] theorem zIW {d d':List D} {f:D→Option R} (h:idf d=d'):zDo d f=zDo d' f:=by rw [zdV] at h; rw [h]
@[congr high] theorem zKb {k:Nat} {d d':D} {f:Nat→Option R} (h:idf d=d'):asH k d f=asH k d' f:=by rw [zdV] at h; rw [h]
@[congr high] theorem zIX {d d':D} {f:Bool→Option R} (h:idf d=d'):zoD d f=zoD d' f:=by rw [zdV] at h; rw [h]
@[congr high] theorem zIr {d d':D} {f:Bool→Option R} (h:idf d=d'):zsk d f=zsk d' f:=by rw [zdV] at h; rw [h]
@[congr high] theorem zIs {kk:MK} {d d':D} {f:List (Int×D)→Option R} (h:idf d=d'):zjf kk d f=zjf kk d' f:=by rw [zdV] at h; rw [h]
@[congr high] theorem zIY {kk:MK} {d d':D} {f:List (Int×D)→Option R} (h:idf d=d'):zsl kk d f=zsl kk d' f:=by rw [zdV] at h; rw [h]
@[congr high] theorem zJU {T T':Tb} {f:Tb→Option R} (h:idf T=T'):letT T f=letT T' f:=by rw [zdV] at h; rw [h]
@[congr high] theorem zIZ {l l':List α} {f:α→List α→Option R} (h:idf l=l'):zd0 l f=zd0 l' f:=by rw [zdV] at h; rw [h]
@[congr high] theorem zJV {l l':List α} {x:Option R} (h:idf l=l'):nilK l x=nilK l' x:=by rw [zdV] at h; rw [h]
@[congr high] theorem zGt {ls:List Lf} {d d':List D} {f:LfT ls→Option R} (h:idf d=d'):zay ls d f=zay ls d' f:=by rw [zdV] at h; rw [h]
@[congr high] theorem zI0 {B:(α→Option R)→α→Option R} {a a':α} (h:idf a=a'):zb1 B a=zb1 B a':=by rw [zdV] at h; rw [h]
end
@[simp] theorem zGu (k i:Nat):zjh (.h k i 0)=true:=rfl
@[simp] theorem zKA (k i:Nat):D.free (.h k i 0)=true:=rfl
@[simp] theorem zc5 {R:Type} (a b:D) (f:LfT [.any,.any]→Option R):zay [.any,.any] [a,b] f=f (a,b,()):=by rw [zci,zci,zch]
@[simp] theorem zKc {β:Type} {l:List β} {n:Nat} (h:l.length=n):cut 0 n l=l:=by subst h; exact zbW l
end Wf

namespace Wf
open Go Go.RowKit Go.Proofs
set_option linter.unusedSimpArgs false
set_option linter.unusedVariables false
set_option maxHeartbeats 4000000
theorem zIt (B:Ben) (live:List Bool):∀ a∈B.fActs live,a.isW=false:=by
 intro a ha;unfold Ben.fActs at ha;obtain ⟨e,he,ha⟩:=List.mem_flatMap.1 ha;split at ha
 ·rw [List.mem_singleton.1 ha]; rfl
 ·cases ha
structure Run (U V:Tb) (b:Nat) (idx:List Nat) (B:Ben) (n:Nat) (K:Int):Prop where
 at':At U V b idx B
 num:B.n=n
 down:B.down=false
 left:B.left= -1
 w:B.w≤K
theorem Run.mono {U V:Tb} {b:Nat} {idx:List Nat} {B:Ben} {n:Nat} {K L:Int} (h:Run U V b idx B n K) (hk:K≤L):Run U V b idx B n L:=⟨h.at',h.num,h.down,h.left,by have:=h.w; omega⟩
theorem zCA (T0 T1:Tb) {g:Geo} (hk:g.ok=true) {n:Nat} (n0:1≤n) (n8:n≤8) (tg:Tag) (l:List Int):∃ U V idx B,
  zbd [.agg [.int .i64 g.l,.int .i64 g.d,.int .i64 g.c],.int .i64 n,.sl tg (intL l)] [T0,T1]=some (Ans.mk (.h kB T0.length 0) [] [P0 U T0.length idx B,P1 V idx B])∧
  Run U V T0.length idx B n 0∧Still B∧B.w=0∧(∀ d s:Int,0≤d→d < g.d→d < n→0≤s→s < 16→B.cur d (36+s)=atR g s (rowL g l s.toNat) d)∧(∀ d a:Int,0≤d→0≤a→a < 36∨g.d≤d→a < 52→B.cur d a=zft):=by
 have hF:=zmg (gs:=fun _=>g) (l:=l) n8 (fun _=>hk) 16 (by omega)
 have hat0:=zEL T0 T1 n8
 refine ⟨_,_,_,_,zJP hk n0 n8 tg l,⟨⟨hat0.b,hat0.nd,hat0.lt,?_,hF.still.ok⟩,hF.num,hF.still.down,hF.left,by rw [hF.w]; omega⟩,hF.still,hF.w,fun d s d0 d1 d2 s0 s1=>?_,fun d a d0 a0 ha a1=>?_⟩
 ·have:=hF.num; unfold Ben.n at this; rw [hat0.len]; simp [Ben.new]; omega
 ·rw [hF.cur d (36+s) d0 (by omega) (by omega),show (36+s - 36)=s by omega,if_pos ⟨by omega,by omega,d1,d2⟩]
 ·rw [hF.cur d a d0 a0 a1,if_neg (fun q=>by omega)]
section
variable {U V:Tb} {b:Nat} {idx:List Nat} {B:Ben} {n:Nat} {K:Int}
theorem Run.up (h:Run U V b idx B n K) {d:Int} (d0:0≤d):B.up (List.replicate n true) d=(decide (d < n) && !B.failed d):=zER h.num d0
theorem Run.is (h:Run U V b idx B n K) {d:Int} (d0:0≤d) (d1:d < n):B.is d=true:=zeL.2 ⟨d0,by rw [h.num]; exact d1⟩
theorem Run.fail (h:Run U V b idx B n K) {d:Int} (d0:0≤d) (d1:d < n):∃ B1,
  zf9 [.h kB b 0,.int .i64 d] [P0 U b idx B,P1 V idx B]=some (Ans.mk (.int .i64 0) [] [P1 V idx B1])∧P0 U b idx B=P0 U b idx B1∧
  Run U V b idx B1 n K∧(∀ e:Int,0≤e→e < n→B1.failed e=(decide (e=d) || B.failed e))∧B1=(B.fail d).2∧(∀ e a:Int,0≤e→e≠d→B1.cur e a=B.cur e a):=by
 have hd:=h.is d0 d1;obtain ⟨f1,f2,f3,f4,f5⟩:=zEQ hd;have hf:=zJF h.at' d;rw [f1] at hf
 have hp:P0 U b idx B=P0 U b idx (B.fail d).2:=by unfold Ben.fail; rw [if_pos hd]; rfl
 have hnx:=zH3 (d:=d) h.at'.ok
 refine ⟨(B.fail d).2,hf,hp,⟨h.at'.nx hnx,f2.trans h.num,f3.trans h.down,f4.trans h.left,by rw [f5]; exact h.w⟩,fun e e0 e1=>zAv hd (h.is e0 e1),rfl,fun e a e0 hne=>zGo hd e0 hne⟩
theorem Run.read (h:Run U V b idx B n K) (hK:K≤900000) (tg:Tag) (live:List Bool) (g:Geo) (r:Int):
  zcn [.h kB b 0,.sl tg (live.map D.bool),.agg [.int .i64 g.l,.int .i64 g.d,.int .i64 g.c],.int .i64 r] [P0 U b idx B,P1 V idx B]=some (Ans.mk (.tup [.sl .own (pL (fP (B.sRead live g r).1)),.int .i64 (B.sRead live g r).2]) [] []):=
 ztB h.at' (by have:=h.w; omega) tg live g r
end
end Wf

namespace Wf
open Go Go.RowKit Go.Proofs
set_option linter.unusedSimpArgs false
set_option linter.unusedVariables false
set_option maxHeartbeats 4000000
@[simp ↓] theorem zKB {R α:Type} (g:α→Option R) (f:(α→Option R)→Option R):jn g f=f g:=rfl
section
variable {T0 T1:Tb} {b:Nat} {idx:List Nat} {B:Ben}
end
end Wf

namespace Wf
open Go Go.RowKit Go.Proofs
set_option linter.unusedSimpArgs false
set_option linter.unusedVariables false
set_option maxHeartbeats 4000000
def Ben.nP (B:Ben) (d:Int):Nat:=(B.dk d).pend.length
section
variable {B:Ben}
theorem zBD {a:Act} (h:a.Ok B) {e:Int} (e0:0≤e):(B.does1 a).nP e=match a with
  | .w d _ _=>if e=d then B.nP e+1 else B.nP e
  | .f d=>if e=d then 0 else B.nP e:=by
 cases a with
 | w d a x=>
  show (((B.junk ((B.dk d).write a x).2).less.setD d ((B.dk d).add a x)).dk e).pend.length=if e=d then B.nP e+1 else B.nP e
  rw [ziR (by simpa using h.1) e0]
  by_cases he:e=d
  ·subst he; rw [if_pos rfl,if_pos rfl]; simp [DS.add,Ben.nP]
  ·rw [if_neg he,if_neg he]; rfl
 | f d=>
  show ((B.setD d (B.dk d).flushed).dk e).pend.length=if e=d then 0 else B.nP e
  rw [ziR h.1 e0]
  by_cases he:e=d
  ·subst he; rw [if_pos rfl,if_pos rfl]; rfl
  ·rw [if_neg he,if_neg he]; rfl
theorem zES {as':List Act} (hB:B.Ok):(∀ a∈as',a.Ok B)→(does B as').Ok∧∀ c:Act,c.Ok B→c.Ok (does B as'):=by
 induction as' generalizing B with
 | nil=>intro _; exact ⟨hB,fun c hc=>hc⟩
 | cons a l ih=>
  intro h;have ha:=h a (List.mem_cons_self ..)
  obtain ⟨i1,i2⟩:=ih (zj5 hB ha).ok fun c hc=>zoY hB ha (h c (List.mem_cons_of_mem _ hc))
  exact ⟨i1,fun c hc=>i2 c (zoY hB ha hc)⟩
end
end Wf

namespace Wf
open Go Go.RowKit Go.Proofs
set_option linter.unusedSimpArgs false
set_option linter.unusedVariables false
set_option maxHeartbeats 4000000
theorem zBE (g:Geo):zaE [.agg [.int .i64 g.l,.int .i64 g.d,.int .i64 g.c]]=some (.int .i64 g.cap):=by
 rw [zi0];unfold zev
 have hw:0≤g.width∧g.width≤8:=by
  unfold Geo.width zhb;split
  ·rename_i h; have:=zca h; unfold Geo.width zhb at this; rw [if_pos h] at this; omega
  ·omega
 have hb:IntKind.i64.wrap (g.width*16)=g.width*16:=zat (by omega) (by omega)
 simp [zjO,hb,zBn]
theorem zIu (g:Geo) (a:Int):zbU [.agg [.int .i64 g.l,.int .i64 g.d,.int .i64 g.c],.int .i64 a]=some (.tup [.int .i64 (ofP g a).1,.int .i64 (ofP g a).2.1,.bool (ofP g a).2.2]):=by
 have hdk:=fun row k=>zza g row k
 have hck:zae [.agg [.int .i64 g.l,.int .i64 g.d,.int .i64 g.c]]=some (.bool g.ok):=zma g.l g.d g.c;rw [zod];unfold zg5;cases hk:g.ok
 ·have:ofP g a=(0,0,false):=by
   unfold ofP;rw [if_neg]
   rintro ⟨h0,h1⟩
   rw [zyB h0 h1] at hk; cases hk
  rw [hk] at hck;simp [hck,this]
 ·rw [hk] at hck;rw [zBE,zjO];unfold ofP
  by_cases h0:a < 0
  ·simp [hck,h0,show ¬ 0≤a by omega]
  ·by_cases h1:g.cap≤a
   ·simp [hck,h0,h1,show ¬ a < g.cap by omega]
   ·have h0:0≤a:=by omega
    have h1:a < g.cap:=by omega
    have hd:=ok_d hk;have hw:=zca hk;have hv:=zFP hk h0;have hr:=zrP h0 h1;have hca:g.cap=g.width*16:=rfl;have hvw:a / g.c / g.width≤a / g.c:=Int.ediv_le_self _ hv.1
    have w1:IntKind.i64.wrap (a.tdiv g.c)=a / g.c:=by rw [zyD hk h0]; exact zat (by omega) (by omega)
    have w2:IntKind.i64.wrap ((a / g.c).tdiv g.width)=a / g.c / g.width:=by rw [Int.tdiv_eq_ediv_of_nonneg hv.1]; exact zat (by omega) (by omega)
    have hm:0≤a / g.c / g.width*g.c:=Int.mul_nonneg hr.2.2.1 (by omega)
    have w3:IntKind.i64.wrap (a / g.c / g.width*g.c)=a / g.c / g.width*g.c:=zat (by omega) (by omega)
    have w4:IntKind.i64.wrap (a / g.c / g.width*g.c+a.tmod g.c)=rowG g a:=by rw [zly h0]; exact zat (by omega) (by omega)
    have t5:(a / g.c).tmod g.width=zcY g a:=zly hv.1
    simp [hck,h0,h1,show ¬ a < 0 by omega,show ¬ g.cap≤a by omega,w1,w2,w3,w4,t5,show g.c≠0 by omega,show g.width≠0 by omega,hdk]
end Wf

namespace Wf
open Go Go.RowKit Go.Proofs
set_option linter.unusedSimpArgs false
set_option linter.unusedVariables false
set_option maxHeartbeats 4000000
theorem zCB {l:List Int} (h:l=[]∨Sec l):Sec (zkP 32 l):=by
 rcases h with rfl | h
 ·rw [zyv]; exact zjn
 ·rw [zsH h.len]; exact h
theorem zrS {ls:List (List Int)} {j:Nat} {x:List Int} (h:∀ y∈ls,Sec y) (hx:Sec x):∀ y∈ls.set j x,Sec y:=fun y hy=>by
 rcases List.mem_or_eq_of_mem_set hy with hy | hy
 ·exact h y hy
 ·rw [hy]; exact hx
theorem zCC {p q:List Int} {ls o:List (List Int)} (hp:p=[]∨Sec p) (hq:q=[]∨Sec q) (hl:∀ l∈ls,l=[]∨Sec l) (h:zlv p q ls=some o):∀ x∈o,Sec x:=by
 have hf:∀ x∈zcS ls,Sec x:=fun x hx=>by
  obtain ⟨y,hy,rfl⟩:=List.mem_map.1 hx;exact zCB (hl y hy)
 have hP:=zwp hf;have hQ:=zwq hf;unfold zlv at h;split at h
 ·cases h
 split at h
 ·cases h
 rename_i hc;rw [zwr] at hc;split at h
 ·rename_i j k hm;rw [hm] at hc
  have hp1:Sec p:=hp.resolve_left fun e=>by rw [if_pos e] at hc; simp at hc
  have hq1:Sec q:=hq.resolve_left fun e=>by rw [if_pos e] at hc; simp at hc
  cases h;have hX:Sec (twoX p q (zcS ls) j k):=zoS _ (ziQ (ziQ hq1 hQ) (zoS _ (ziQ hp1 hP)));exact zrS (zrS hf hX) (ziQ (ziQ hp1 hP) hX)
 ·rename_i j hm;rw [hm] at hc;split at h
  ·rename_i h0
   have hp1:Sec p:=hp.resolve_left fun e=>by rw [e] at h0; simp at h0
   cases h;exact zrS hf (ziQ hp1 hP)
  ·rename_i h0
   have hp0:p=[]:=by cases p; rfl; simp at h0
   have hq1:Sec q:=hq.resolve_left fun e=>by rw [if_pos e,if_pos hp0] at hc; simp at hc
   cases h;exact zrS hf (zoS _ (ziQ hq1 hQ))
 ·cases h; exact hf
section
variable {B:Ben}
theorem zIv (hB:B.Ok) {d a:Int} (a0:0≤a) (a1:a < 52):Sec (B.cur d a):=zJq (zoU hB d).1 a0 a1
theorem zzh (hB:B.Ok) {live:List Bool} {g:Geo} {r:Int} (h:(B.sRead live g r).2=0):Row g (B.sRead live g r).1∧zcL g r=true:=by
 unfold Ben.sRead at h ⊢;split at h
 ·exact absurd h (by decide)
 rename_i hr
 have hr:zcL g r=true:=by simpa using hr
 rw [if_neg (by simp [hr])]
 split at h
 ·exact absurd h (by decide)
 rename_i hd;rw [if_neg hd]
 cases ht:zrg g r (B.secs live r g.d.toNat) with
 | none=>rw [ht] at h; exact absurd h (by decide)
 | some o=>
  refine ⟨⟨?_,?_⟩,hr⟩
  ·have:=zGk ht;have:=zca (zbz.1 hr).1;show (o.length:Int)=_;omega
  ·obtain ⟨hk,r0,r1⟩:=zbz.1 hr
   have hs:∀ j:Nat,(B.secs live r g.d.toNat).getD j []=[]∨Sec ((B.secs live r g.d.toNat).getD j []):=by
    intro j;unfold Ben.secs;rw [List.getD_eq_getElem?_getD,List.getElem?_map]
    cases (List.range g.d.toNat)[j]? with
    | none=>exact .inl rfl
    | some d=>
     show (if B.up live d=true then _ else _)=[]∨Sec (if B.up live d=true then _ else _)
     split
     ·exact .inr (zIv hB (by omega) (by omega))
     ·exact .inl rfl
   unfold zrg at ht;split at ht
   rotate_left
   ·cases ht
   refine zCC (hs _) ?_ (fun l hl=>?_) ht
   ·unfold qOf;split
    ·exact .inl rfl
    ·exact hs _
   ·obtain ⟨j,_,rfl⟩:=List.mem_map.1 hl;exact hs _
end
section
variable {T0 T1:Tb} {b:Nat} {idx:List Nat} {B:Ben}
end
end Wf

namespace Wf
open Go Go.RowKit
set_option linter.unusedSimpArgs false
set_option linter.unusedVariables false
theorem zIw {c r w m row j:Int} (hc:c=1∨c=2∨c=4) (hr:r=1∨r=2∨r=4) (hcr:c≤r) (hw:2≤w∧w≤7) (j0:0≤j) (j1:j < w) (h0:0≤row) (h:row < m*r):(row / c*w+j)*c+row % c < m*(r*w):=by
 have hw:w=2∨w=3∨w=4∨w=5∨w=6∨w=7:=by omega
 rcases hc with rfl | rfl | rfl<;>rcases hr with rfl | rfl | rfl<;>first | (exfalso; omega) | (rcases hw with rfl | rfl | rfl | rfl | rfl | rfl<;>omega)
theorem zGv {c r w m row j:Int} (hc:c=1∨c=2∨c=4) (hr:r=1∨r=2∨r=4) (hcr:c≤r) (hw:2≤w∧w≤7) (j0:0≤j) (j1:j < w) (h0:0≤row) (h:m*r≤row):m*(r*w)≤(row / c*w+j)*c+row % c:=by
 have hw:w=2∨w=3∨w=4∨w=5∨w=6∨w=7:=by omega
 rcases hc with rfl | rfl | rfl<;>rcases hr with rfl | rfl | rfl<;>first | (exfalso; omega) | (rcases hw with rfl | rfl | rfl | rfl | rfl | rfl<;>omega)
theorem zGw {c r w k a:Int} (hc:c=1∨c=2∨c=4) (hr:r=1∨r=2∨r=4) (hcr:c≤r) (hw:2≤w∧w≤7) (h0:0≤a) (h:k*r*w≤a):k*r≤a / c / w*c+a % c:=by
 have hw:w=2∨w=3∨w=4∨w=5∨w=6∨w=7:=by omega
 rcases hc with rfl | rfl | rfl<;>rcases hr with rfl | rfl | rfl<;>first | (exfalso; omega) | (rcases hw with rfl | rfl | rfl | rfl | rfl | rfl<;>omega)
theorem zii {g:Geo} {a:Int} (h0:0≤a) (h1:a < g.cap):zcL g (rowG g a)=true∧0≤zcY g a∧zcY g a < g.width∧numP g (rowG g a) (zcY g a)=a:=by
 have hk:=zyB h0 h1;have hr:=zrP h0 h1;have hm:=zJz hk (a / g.c);refine ⟨zbz.2 ⟨hk,hr.1,hr.2.1⟩,hm.1,hm.2,?_⟩;have hw:=zca hk;have hc:=(zez.1 hk).2.2;unfold numP rowG zcY;generalize g.c=c at*;generalize g.width=w at*
 have hw:w=2∨w=3∨w=4∨w=5∨w=6∨w=7:=by omega
 rcases hc with rfl | rfl | rfl<;>rcases hw with rfl | rfl | rfl | rfl | rfl | rfl<;>omega
theorem zIx {x y:Geo} {k:Int} (h0:0≤k) (h1:k < winP x y):zfj x y k=(k*(zdo x y*y.width),(k+1)*(zdo x y*y.width)):=by
 unfold zfj; rw [if_neg (by omega)]
theorem zIy {x y:Geo} {k:Int} (h0:0≤k) (h1:k < winP x y):x.can y=true:=by
 cases h:x.can y
 ·have:=(zH6 h).2; omega
 ·rfl
structure Win (x y:Geo) (k:Int):Prop where
 can:x.can y=true
 xok:x.ok=true
 yok:y.ok=true
 r:zdo x y=1∨zdo x y=2∨zdo x y=4
 xc:x.c≤zdo x y
 yc:y.c≤zdo x y
 r0:0≤k*zdo x y
 r1:(k+1)*zdo x y≤16
 rr:(k+1)*zdo x y=k*zdo x y+zdo x y
 s1:(zfj x y k).1=k*(zdo x y*y.width)
 s2:(zfj x y k).2=(k+1)*(zdo x y*y.width)
 ss:(zfj x y k).2=(zfj x y k).1+zdo x y*y.width
 s0:0≤(zfj x y k).1
 se:(zfj x y k).2≤y.cap
 m:2≤zdo x y*y.width∧zdo x y*y.width≤28
theorem zG7 {x y:Geo} {k:Int} (h0:0≤k) (h1:k < winP x y):Win x y k:=by
 have hc:=zIy h0 h1;obtain ⟨k1,k2,k3,k4,k5,k6⟩:=zwz.1 hc;obtain ⟨e1,e2⟩:=zD9 hc;obtain ⟨e3,e4,e5⟩:=zJy hc;have hw:=zca k2;have hs:=zIx h0 h1;have hx:=(zez.1 k1).2.2;have hy:=(zez.1 k2).2.2
 have rr:(k+1)*zdo x y=k*zdo x y+zdo x y:=by rw [Int.add_mul,Int.one_mul]
 have ss:(k+1)*(zdo x y*y.width)=k*(zdo x y*y.width)+zdo x y*y.width:=by rw [Int.add_mul,Int.one_mul]
 have hm:2≤zdo x y*y.width∧zdo x y*y.width≤28:=by rcases e2 with e | e | e<;>rw [e]<;>omega
 have hr0:0≤k*zdo x y:=Int.mul_nonneg h0 (by omega)
 have hr1:(k+1)*zdo x y≤16:=by
  rw [←e5]
  exact Int.mul_le_mul_of_nonneg_right (by omega) (by omega)
 refine ⟨hc,k1,k2,e2,by omega,by omega,hr0,hr1,rr,by rw [hs],by rw [hs],by rw [hs]; exact ss,by rw [hs]; exact Int.mul_nonneg h0 (by omega),?_,hm⟩
 rw [hs];show (k+1)*(zdo x y*y.width)≤y.width*16;rw [←Int.mul_assoc,Int.mul_comm y.width 16]
 exact Int.mul_le_mul_of_nonneg_right hr1 (by omega)
theorem zGx {x y:Geo} {k r j:Int} (h:Win x y k) (r0:k*zdo x y≤r) (r1:r < (k+1)*zdo x y) (j0:0≤j) (j1:j < y.width):(zfj x y k).1≤numP y r j∧numP y r j < (zfj x y k).2:=by
 have hw:=zca h.yok;have hy:=(zez.1 h.yok).2.2;have:=h.r0;rw [h.s1,h.s2];unfold numP
 exact ⟨zGv hy h.r h.yc hw j0 j1 (by omega) r0,zIw hy h.r h.yc hw j0 j1 (by omega) r1⟩
theorem zIz {x y:Geo} {k n:Int} (h:Win x y k) (n0:(zfj x y k).1≤n) (n1:n < x.cap):k*zdo x y≤rowG x n:=by
 have hw:=zca h.xok;have hx:=(zez.1 h.xok).2.2;have hs:=h.s0;have hww:=(zwz.1 h.can).2.2.2.2.2;rw [h.s1] at n0 hs
 have hle:k*zdo x y*x.width≤k*(zdo x y*y.width):=by
  rw [Int.mul_assoc]
  have h0:0≤k:=by
   rcases h.r with e | e | e<;>have:=h.r0<;>rw [e] at this<;>omega
  exact Int.mul_le_mul_of_nonneg_left (Int.mul_le_mul_of_nonneg_left hww (by rcases h.r with e | e | e<;>omega)) h0
 unfold rowG
 exact zGw hx h.r h.xc hw (by omega) (by omega)
end Wf

namespace Wf
open Go Go.RowKit Go.Proofs
set_option linter.unusedSimpArgs false
set_option linter.unusedVariables false
set_option maxHeartbeats 4000000
section
variable (a to:Geo) (k:Int)
def mayW:Bool:=decide (0≤k) && decide (k < winP a to)
end
def Act.sec:Act→Prop
 | .w _ _ x=>Sec x
 | .f _=>True
theorem zxl:∀ (l:List Act) {B:Ben},B.Ok→(∀ a∈l,a.sec)→Nx (nW l) B (runA l B).2∧Like B (runA l B).2
 | [],B,hB,_=>⟨.rfl' hB (by simp [nW]),.refl B⟩
 | a::l,B,hB,h=>by
  have ha:=h a (List.mem_cons_self ..)
  have h1:Nx (if a.isW=true then 1 else 0) B (B.act a).2∧Like B (B.act a).2:=by
   cases a with
   | w d a x=>exact ⟨zww hB (.inl ha),zqI ..⟩
   | f d=>exact ⟨zBj hB,zvt hB d⟩
  rw [zlw,zz4]
  by_cases h0:(B.act a).1=0
  ·rw [if_pos h0]
   obtain ⟨h2,h3⟩:=zxl l h1.1.ok fun c hc=>h c (List.mem_cons_of_mem _ hc)
   exact ⟨(h1.1.trans h2).mono (by split<;>simp),h1.2.trans h3⟩
  ·rw [if_neg h0]
   exact ⟨h1.1.mono (by split<;>simp<;>omega),h1.2⟩
theorem zAw {T0:Tb} {b:Nat} {idx:List Nat}:∀ (l:List Act) (B:Ben),(∀ a∈l,a.isW=false)→P0 T0 b idx (runA l B).2=P0 T0 b idx B
 | [],B,_=>rfl
 | a::l,B,h=>by
  have h1:P0 T0 b idx (B.act a).2=P0 T0 b idx B:=by
   have:=h a (List.mem_cons_self ..)
   cases a with
   | w d a x=>cases this
   | f d=>show P0 T0 b idx (B.flush d).2=_; unfold Ben.flush; split<;>rfl
  rw [zlw];split
  ·rw [zAw l _ fun a ha=>h a (List.mem_cons_of_mem _ ha),h1]
  ·exact h1
def Ben.wOne (B:Ben) (live:List Bool) (a:Geo) (n:Int):List Int×Int:=if a.cap≤n then (zft,0) else B.sOne live a n
def Ben.wStep (B:Ben) (live:List Bool) (a:Geo) (from':Int) (j:Nat) (acc:List (List Int)):Int×List (List Int):=
 if (B.wOne live a (from'+j)).2=0 then (0,acc++[(B.wOne live a (from'+j)).1]) else ((B.wOne live a (from'+j)).2,acc)
def Ben.wGo (B:Ben) (live:List Bool) (a to:Geo) (k:Int):Int×List (List Int):=runE (B.wStep live a (zfj a to k).1) 0 ((zfj a to k).2 - (zfj a to k).1).toNat []
def Ben.wRead (B:Ben) (live:List Bool) (a to:Geo) (k:Int):List (List Int)×Int:=
 if mayW a to k=false then ([],1) else (if (B.wGo live a to k).1=0 then (B.wGo live a to k).2 else [],(B.wGo live a to k).1)
def rowW (a to:Geo) (k:Int) (data:List (List Int)) (r:Int):List (List Int):=(List.range to.width.toNat).map fun (j:Nat)=>data.getD (numP to r j - (zfj a to k).1).toNat []
theorem zGy {a to:Geo} {k:Int}:mayW a to k=true↔0≤k∧k < winP a to:=by unfold mayW; simp
section
variable {T0 T1:Tb} {b:Nat} {idx:List Nat} {B:Ben}
end
end Wf

namespace Wf
open Go Go.RowKit Go.Proofs
set_option linter.unusedSimpArgs false
set_option linter.unusedVariables false
set_option maxHeartbeats 4000000
section
variable {B B':Ben} {live:List Bool}
theorem Like.fActs (h:Like B B'):B'.fActs live=B.fActs live:=by
 unfold Ben.fActs
 have:B'.ds.length=B.ds.length:=by have:=h.1; unfold Ben.n at this; omega
 rw [this];simp only [h.up]
def Act.d:Act→Int
 | .w d _ _=>d
 | .f d=>d
end
section
variable {a to:Geo} {k:Int} {data:List (List Int)}
structure WinD (a to:Geo) (k:Int) (data:List (List Int)):Prop where
 k0:0≤k
 k1:k < winP a to
 len:(data.length:Int)=(zfj a to k).2 - (zfj a to k).1
 sec:∀ x∈data,Sec x
theorem WinD.win (h:WinD a to k data):Win a to k:=zG7 h.k0 h.k1
theorem WinD.row (h:WinD a to k data) {r:Int} (r0:k*zdo a to≤r) (r1:r < (k+1)*zdo a to):Row to (rowW a to k data r)∧zcL to r=true:=by
 have hW:=h.win;have:=hW.r0;have:=hW.r1;have hyw:=zca hW.yok;have hl:=h.len
 refine ⟨⟨by simp [rowW]; omega,fun x hx=>?_⟩,zbz.2 ⟨hW.yok,by omega,by omega⟩⟩
 obtain ⟨j,hj,rfl⟩:=List.mem_map.1 hx;have hj:=List.mem_range.1 hj
 obtain ⟨n0,n1⟩:=zGx hW r0 r1 (j:=(j:Int)) (by omega) (by omega)
 exact h.sec _ (zee (by omega))
variable {B:Ben} {live:List Bool}
end
section
variable {U V:Tb} {b:Nat} {idx:List Nat} {B:Ben} {n:Nat} {K:Int}
theorem zIA (T0 T1:Tb) {n:Nat} (h0:1≤n) (h8:n≤8):∃ U V idx,
  zbD [.int .i64 n] [T0,T1]=some (Ans.mk (.tup [.h kB T0.length 0,.int .i64 0]) [] [P0 U T0.length idx (Ben.new n),P1 V idx (Ben.new n)])∧
  Run U V T0.length idx (Ben.new n) n 0∧Still (Ben.new n):=
 ⟨_,_,_,zJN T0 T1 h0 h8,⟨zEL T0 T1 h8,by simp [Ben.new,Ben.n],rfl,rfl,Int.le_refl _⟩,zzf h8⟩
theorem zET {live:List Bool} {a to:Geo} {k:Int} (k0:0≤k) (k1:k < winP a to) (v:Int→List Int) (hv:∀ m,(zfj a to k).1≤m→m < (zfj a to k).2→B.wOne live a m=(v m,0)):
  B.wRead live a to k=((List.range ((zfj a to k).2 - (zfj a to k).1).toNat).map fun (j:Nat)=>v ((zfj a to k).1+j),0):=by
 have key:∀ (m j:Nat) (acc:List (List Int)),j+m=((zfj a to k).2 - (zfj a to k).1).toNat→runE (B.wStep live a (zfj a to k).1) j m acc=(0,acc++(List.range' j m).map fun (j:Nat)=>v ((zfj a to k).1+j)):=by
  intro m
  induction m with
  | zero=>intro j acc _; simp [runE]
  | succ m ih=>
   intro j acc hj
   have h1:=hv ((zfj a to k).1+j) (by omega) (by omega)
   have:B.wStep live a (zfj a to k).1 j acc=(0,acc++[v ((zfj a to k).1+j)]):=by unfold Ben.wStep; rw [h1,if_pos rfl]
   unfold runE
   rw [this,if_pos rfl,ih (j+1) _ (by omega),List.range'_succ]
   simp
 unfold Ben.wRead Ben.wGo
 rw [zGy.2 ⟨k0,k1⟩,if_neg (by simp),key _ 0 [] (by omega),List.range_eq_range']
 simp
end
end Wf

namespace Wf
open Go Go.RowKit Go.Proofs
set_option linter.unusedSimpArgs false
set_option linter.unusedVariables false
set_option maxHeartbeats 4000000
end Wf

namespace Wf
open Go Go.RowKit Go.Proofs
set_option linter.unusedSimpArgs false
set_option linter.unusedVariables false
set_option maxHeartbeats 4000000
section
variable {B:Ben}
theorem Like.lostN {B':Ben} (h:Like B B') (live:List Bool) (g:Geo):B'.lostN live g=B.lostN live g:=by unfold Ben.lostN; simp only [h.up]
end
section
variable {U V:Tb} {b:Nat} {idx:List Nat} {B:Ben} {n:Nat} {K:Int}
end
end Wf

namespace Wf
open Go Go.RowKit Go.Proofs
set_option linter.unusedSimpArgs false
set_option linter.unusedVariables false
set_option maxHeartbeats 4000000
section
variable {T:Tb} {i:Nat} {s:DS}
end
section
variable {B:Ben}
end
section
variable {T0 T1:Tb} {b:Nat} {idx:List Nat} {B:Ben}
end
end Wf

namespace Wf
open Go Go.RowKit Go.Proofs
set_option linter.unusedSimpArgs false
set_option linter.unusedVariables false
set_option maxHeartbeats 4000000
section
variable {T0 T1:Tb} {b:Nat} {idx:List Nat} {B:Ben}
theorem zGz (h:At T0 T1 b idx B) (hw:B.w≤1000000):
  zbc [.h kB b 0] [P0 T0 b idx B,P1 T1 idx B]=some (Ans.mk (.h kB (P0 T0 b idx B).length 0) []
   [P0 T0 b idx B++[zqJ B.w B.left B.down ((List.range B.ds.length).map fun j=>hD ((P1 T1 idx B).length+j))],P1 T1 idx B++B.ds.map DS.cells]):=by
 rw [zk9];unfold zfE;have hrow:(P0 T0 b idx B)[b]? =some [.int .i64 B.w,.int .i64 B.left,.bool B.down,.sl .own (idx.map hD)]:=h.get0;have hsm:=h.ok.small;have hfl:zhO (List.take 3 (List.drop 0 [D.int .i64 B.w,D.int .i64 B.left,D.bool B.down,D.sl .own (idx.map hD)]))=true:=rfl;have htk:List.take 3 (List.drop 0 [D.int .i64 B.w,D.int .i64 B.left,D.bool B.down,D.sl .own (idx.map hD)])=[D.int .i64 B.w,D.int .i64 B.left,D.bool B.down]:=rfl
 have hgc:∀ {R:Type} (f:LfT [.int .i64,.int .i64,.bool]→Option R),zay [.int .i64,.int .i64,.bool] [D.int .i64 B.w,D.int .i64 B.left,D.bool B.down] f=f (B.w,B.left,B.down,()):=by
  intro R f; rw [zb7,zb7,zwg,zch]
 rw [zak hrow,zaa (by simp),hfl,zaa rfl,htk,hgc]
 simp (disch:=first | omega | assumption | (simp; done) | fail) only [zdV,zak hrow,zgN,zoL,zbl,zaa,Nat.zero_add,Nat.le_refl,List.length_map,h.len]
 generalize hX:P0 T0 b idx B=X at*;generalize hY:P1 T1 idx B=Y at*
 let st:Nat→(((Int×Int×Bool×(Tag×List D)×PUnit)×List D)×(Nat×Nat×Nat)×Int×Int×PUnit)×List (List D)×List (List D)×PUnit:=fun k=>
  ((((B.w,B.left,B.down,(Tag.nil,[]),PUnit.unit),(List.range k).map fun j=>hD (Y.length+j)),(b,0,B.ds.length),(B.ds.length:Int),(k:Int),PUnit.unit),X,Y++(B.ds.take k).map DS.cells,PUnit.unit)
 have hst:st 0=((((B.w,B.left,B.down,(Tag.nil,[]),PUnit.unit),[]),(b,0,B.ds.length),(B.ds.length:Int),0,PUnit.unit),X,Y,PUnit.unit):=by simp [st]
 rw [←hst]
 refine zb8 st B.ds.length (by omega) ?_ ?_
 ·intro again k hk;dsimp only [st]
  have hd:B.is k=true:=zeL.2 ⟨by omega,by unfold Ben.n; omega⟩
  have hhd:(idx.map hD)[k]? =some (.h kD (ix idx k) 0):=by have:=h.hd hd; simpa using this
  obtain ⟨ho,hpl⟩:=h.ds hw k;have hg:=h.get1 hd;rw [hY] at hg
  have hg2:(Y++(B.ds.take k).map DS.cells)[ix idx k]? =some (B.dk k).cells:=by
   rw [List.getElem?_append_left (List.getElem?_eq_some_iff.1 hg).1]; exact hg
  have hcl:=zxe hg2 ho hpl
  have hlen:(Y++(B.ds.take k).map DS.cells).length=Y.length+k:=by simp; omega
  have hdk:B.ds[k]? =some (B.dk k):=by unfold Ben.dk; rw [Int.toNat_natCast,List.getElem?_eq_getElem hk]; rfl
  have hsn:(Y++(B.ds.take k).map DS.cells)++[(B.dk k).cells]=Y++(B.ds.take (k+1)).map DS.cells:=by
   rw [List.take_add_one,hdk,List.append_assoc]; simp
  rw [hlen,hsn] at hcl
  have hkk:(k:Int) < (B.ds.length:Int):=by omega
  have hH:(List.map (fun j=>hD (Y.length+j)) (List.range k))++[D.h kD (Y.length+k) 0]=(List.range (k+1)).map fun j=>hD (Y.length+j):=ztC Y.length k
  have i1:(D.h kD (ix idx k) 0).isAgg=false:=rfl;have i2:(D.h kD (ix idx k) 0).width=1:=rfl;have i3:(D.h kD (ix idx k) 0).cell=true:=rfl;have i4:zd9 1 [D.h kD (Y.length+k) 0]=true:=rfl
  have hwr:IntKind.i64.wrap ((k:Int)+1)=((k+1:Nat):Int):=by rw [zat (by omega) (by omega)]; omega
  simp (disch:=first | omega | assumption | (simp; done) | fail) only [zdV,zlq,zak hrow,zgN,zoL,zbl,zaa,Nat.zero_add,Int.toNat_natCast,zak hhd,i1,i2,i3,hcl,zab,zaP,zbV,zGu,i4,List.length_map,List.length_range,hH,zap,hwr]
 ·intro again;dsimp only [st]
  have e1:((List.range B.ds.length).map fun j=>hD (Y.length+j))=((List.range B.ds.length).map fun j=>Y.length+j).map hD:=by rw [List.map_map]; rfl
  have f1:=zvu ((List.range B.ds.length).map fun j=>Y.length+j)
  have f2:=zze ((List.range B.ds.length).map fun j=>Y.length+j)
  rw [←e1] at f1 f2
  have hnl:¬ ((B.ds.length:Nat):Int) < ((B.ds.length:Nat):Int):=by omega
  simp (disch:=first | omega | assumption | (simp; done) | fail) only [zdV,zfN,zaa,f1,f2,zp1,List.take_length]
  simp [zqJ,D.own0]
structure Aside (U V:Tb) (b:Nat) (idx:List Nat) (b2:Nat) (idx2:List Nat) (C:Ben):Prop where
 ne:b2≠b
 lt:b2 < U.length
 row:U[b2]? =some (bRow C idx2)
 nd:idx2.Nodup
 len:idx2.length=C.ds.length
 ok:C.Ok
 g:C.g=[]
 dis:∀ i∈idx2,i ∉ idx
 cells:∀ (j i:Nat) (c:List D),idx2[j]? =some i→(C.ds.map DS.cells)[j]? =some c→V[i]? =some c
theorem Aside.vlt {U V:Tb} {b:Nat} {idx:List Nat} {b2:Nat} {idx2:List Nat} {C:Ben} (h:Aside U V b idx b2 idx2 C):∀ i∈idx2,i < V.length:=fun i hi=>by
 obtain ⟨j,hj,rfl⟩:=List.mem_iff_getElem.1 hi
 have h2:=h.cells j idx2[j] ((C.ds.map DS.cells)[j]'(by rw [List.length_map,←h.len]; exact hj)) (List.getElem?_eq_getElem hj) (List.getElem?_eq_getElem _)
 exact (List.getElem?_eq_some_iff.1 h2).1
theorem Aside.at' {U V:Tb} {b:Nat} {idx:List Nat} {b2:Nat} {idx2:List Nat} {C:Ben} (h:Aside U V b idx b2 idx2 C) (B1:Ben):At (P0 U b idx B1) (P1 V idx B1) b2 idx2 C:=by
 have e0:∀ X:Tb,(P0 X b idx B1).length=X.length:=fun X=>zG1
 have e1:∀ X:Tb,(P1 X idx B1).length=X.length+B1.g.length:=fun X=>zD6
 exact ⟨by rw [e0]; exact h.lt,h.nd,fun i hi=>by rw [e1]; have:=h.vlt i hi; omega,h.len,h.ok⟩
theorem Aside.p0 {U V:Tb} {b:Nat} {idx:List Nat} {b2:Nat} {idx2:List Nat} {C:Ben} (h:Aside U V b idx b2 idx2 C) (B1:Ben):P0 (P0 U b idx B1) b2 idx2 C=P0 U b idx B1:=by
 refine zz3 ?_;unfold P0
 rw [List.getElem?_set,if_neg (fun q=>h.ne q.symm)]
 exact h.row
theorem Aside.get {U V:Tb} {b:Nat} {idx:List Nat} {b2:Nat} {idx2:List Nat} {C:Ben} (h:Aside U V b idx b2 idx2 C) (B1:Ben) {i:Nat} (hi:i∈idx2):(P1 V idx B1)[i]? =V[i]? :=by
 unfold P1
 rw [List.getElem?_append_left (by rw [zoW]; exact h.vlt i hi),zu9 _ _ _ (h.dis i hi)]
theorem Aside.p1 {U V:Tb} {b:Nat} {idx:List Nat} {b2:Nat} {idx2:List Nat} {C:Ben} (h:Aside U V b idx b2 idx2 C) (B1:Ben):P1 (P1 V idx B1) idx2 C=P1 V idx B1:=by
 show putL _ _ (C.ds.map DS.cells)++C.g=_;rw [h.g,List.append_nil]
 refine zoX fun j i c h1 h2=>?_
 rw [h.get B1 (List.mem_of_getElem? h1)];exact h.cells j i c h1 h2
def Ben.clean (B:Ben):Ben:={ B with g:=[] }
theorem zBF (h:B.Ok):B.clean.Ok:=⟨h.w0,h.lf,h.small,h.ds⟩
theorem zEU (T1:Tb) (idx:List Nat) (B:Ben) (h:At T0 T1 b idx B) (X:Tb):putL (P1 T1 idx B++X) idx (B.ds.map DS.cells)=P1 T1 idx B++X:=by
 refine zoX fun j i c h1 h2=>?_
 have hj:j < B.ds.length:=by
  have:=(List.getElem?_eq_some_iff.1 h2).1; simpa using this
 have hd:B.is (j:Int)=true:=zeL.2 ⟨by omega,by unfold Ben.n; omega⟩
 have hg:=h.get1 hd;have hi:=h.ixl hd;rw [Int.toNat_natCast,h1] at hi;have e:ix idx (j:Int)=i:=(Option.some.inj hi).symm;rw [e] at hg;rw [List.getElem?_append_left (List.getElem?_eq_some_iff.1 hg).1,hg];have hdk:=h.dks hd;rw [Int.toNat_natCast,h2] at hdk;exact hdk.symm
theorem zIB (h:At T0 T1 b idx B) (hw:B.w≤1000000):∃ U V b2 idx2,
  zbc [.h kB b 0] [P0 T0 b idx B,P1 T1 idx B]=some (Ans.mk (.h kB b2 0) [] [P0 U b idx B.clean,P1 V idx B.clean])∧At U V b idx B.clean∧Aside U V b idx b2 idx2 B.clean:=by
 have hl:=h.len;have hX:(P0 T0 b idx B).length=T0.length:=zG1
 have hbl:b < (P0 T0 b idx B).length:=by rw [hX]; exact h.b
 refine ⟨P0 T0 b idx B++[zqJ B.w B.left B.down ((List.range B.ds.length).map fun j=>hD ((P1 T1 idx B).length+j))],P1 T1 idx B++B.ds.map DS.cells,(P0 T0 b idx B).length,(List.range B.ds.length).map fun j=>(P1 T1 idx B).length+j,?_,?_,?_⟩
 ·rw [zGz h hw]
  have e1:P0 (P0 T0 b idx B++[zqJ B.w B.left B.down ((List.range B.ds.length).map fun j=>hD ((P1 T1 idx B).length+j))]) b idx B.clean=P0 T0 b idx B++[zqJ B.w B.left B.down ((List.range B.ds.length).map fun j=>hD ((P1 T1 idx B).length+j))]:=
   zz3 (B:=B.clean) (by rw [List.getElem?_append_left hbl]; exact h.get0)
  have e2:P1 (P1 T1 idx B++B.ds.map DS.cells) idx B.clean=P1 T1 idx B++B.ds.map DS.cells:=by
   show putL _ idx (B.ds.map DS.cells)++[]=_;rw [List.append_nil];exact zEU T1 idx B h _
  rw [e1,e2]
 ·refine ⟨by rw [List.length_append]; omega,h.nd,fun i hi=>?_,hl,zBF h.ok⟩
  rw [List.length_append,zD6];have:=h.lt i hi; omega
 ·refine ⟨by omega,by rw [List.length_append]; simp,?_,?_,by simp [Ben.clean],zBF h.ok,rfl,fun i hi hm=>?_,fun j i c h1 h2=>?_⟩
  ·rw [List.getElem?_append_right (Nat.le_refl _),Nat.sub_self];simp [zqJ,bRow,Ben.clean,List.map_map]
  ·rw [List.nodup_iff_pairwise_ne,List.pairwise_map]
   exact List.Pairwise.imp (fun hab q=>by omega) List.pairwise_lt_range
  ·obtain ⟨j,hj,rfl⟩:=List.mem_map.1 hi;have:=h.lt _ hm; rw [zD6] at this; omega
  ·have hj:j < B.ds.length:=by
    have:=(List.getElem?_eq_some_iff.1 h2).1; simpa [Ben.clean] using this
   rw [List.getElem?_map,List.getElem?_range hj] at h1;have e:i=(P1 T1 idx B).length+j:=(Option.some.inj h1).symm;subst e
   rw [List.getElem?_append_right (by omega),show (P1 T1 idx B).length+j - (P1 T1 idx B).length=j by omega]
   exact h2
end
section
variable {U V:Tb} {b:Nat} {idx:List Nat} {B:Ben} {n:Nat} {K:Int}
theorem Run.clone (h:Run U V b idx B n K) (hK:K≤900000):∃ U' V' b2 idx2,
  zbc [.h kB b 0] [P0 U b idx B,P1 V idx B]=some (Ans.mk (.h kB b2 0) [] [P0 U' b idx B.clean,P1 V' idx B.clean])∧Run U' V' b idx B.clean n K∧Aside U' V' b idx b2 idx2 B.clean:=by
 obtain ⟨U',V',b2,idx2,h1,h2,h3⟩:=zIB h.at' (by have:=h.w; omega)
 exact ⟨U',V',b2,idx2,h1,⟨h2,h.num,h.down,h.left,h.w⟩,h3⟩
theorem Aside.read {b2:Nat} {idx2:List Nat} {C:Ben} (h:Aside U V b idx b2 idx2 C) (hw:C.w≤1000000) (B1:Ben) (d a:Int):
  zaL [.h kB b2 0,.int .i64 d,.int .i64 a] [P0 U b idx B1,P1 V idx B1]=some (Ans.mk (.tup [.sl .own (uL (C.read d a).1),.int .i64 (C.read d a).2]) [] []):=by
 have:=zBq (h.at' B1) hw d a;rw [h.p0,h.p1] at this;exact this
end
end Wf

namespace Wf
open Go Go.RowKit Go.Proofs
set_option linter.unusedSimpArgs false
set_option linter.unusedVariables false
set_option maxHeartbeats 4000000
section
variable {T0 T1:Tb}
end
end Wf

namespace Wf
open Go Go.RowKit Go.Proofs
set_option linter.unusedSimpArgs false
set_option linter.unusedVariables false
set_option maxHeartbeats 4000000
theorem zGA {B:Ben} {live:List Bool} {g:Geo} {d:Int} (hg:0≤g.d) (h:∀ e:Int,0≤e→e < g.d→e≠d→B.up live e=true):B.lostN live g≤1:=by
 unfold Ben.lostN
 refine zEP (a:=d.toNat) fun i hi hp=>?_
 by_cases he:(i:Int)=d
 ·omega
 ·rw [h i (by omega) (by omega) he] at hp; cases hp
section
variable {U V:Tb} {b:Nat} {idx:List Nat} {B:Ben} {n:Nat} {K:Int}
end
end Wf

namespace Wf
open Go Go.RowKit Go.Proofs
set_option linter.unusedSimpArgs false
set_option linter.unusedVariables false
set_option maxHeartbeats 4000000
section
variable {U V:Tb} {b:Nat} {idx:List Nat} {B:Ben} {n:Nat} {K:Int}
theorem zBG {d a:Int} (hd:B.is d=true) (hdn:B.down=false) (hf:B.failed d=false) (a0:0≤a) (a1:a < 52):B.read d a=(B.cur d a,0):=by
 unfold Ben.read
 rw [may0.2 ⟨hd,hdn⟩,if_neg (by simp)]
 unfold DS.read;rw [zgO hd] at hf
 rw [znA.2 ⟨hf,a0,a1⟩,if_neg (by simp)]
 rfl
theorem Run.bread (h:Run U V b idx B n K) (hK:K≤900000) {d a:Int} (d0:0≤d) (d1:d < n) (hf:B.failed d=false) (a0:0≤a) (a1:a < 52):
  zaL [.h kB b 0,.int .i64 d,.int .i64 a] [P0 U b idx B,P1 V idx B]=some (Ans.mk (.tup [.sl .own (uL (B.cur d a)),.int .i64 0]) [] []):=by
 have:=zBq h.at' (by have:=h.w; omega) d a
 rw [zBG (h.is d0 d1) h.down hf a0 a1] at this;exact this
end
end Wf

namespace Wf
open Go Go.RowKit Go.Proofs
set_option linter.unusedSimpArgs false
set_option linter.unusedVariables false
set_option maxHeartbeats 4000000
section
variable {U V:Tb} {b:Nat} {idx:List Nat} {B:Ben} {n:Nat} {K:Int}
end
end Wf

namespace Wf
open Go Go.RowKit Go.Proofs
set_option linter.unusedSimpArgs false
set_option linter.unusedVariables false
set_option maxHeartbeats 4000000
section
variable {B:Ben}
end
section
variable {T0 T1:Tb} {b:Nat} {idx:List Nat} {B:Ben}
end
end Wf

namespace Wf
open Go Go.RowKit Go.Proofs
set_option linter.unusedSimpArgs false
set_option linter.unusedVariables false
set_option maxHeartbeats 4000000
@[simp] theorem zE9 {R:Type} (a b c:D) (f:LfT [.any,.any,.any]→Option R):zay [.any,.any,.any] [a,b,c] f=f (a,b,c,()):=by rw [zci,zci,zci,zch]
section
variable {B:Ben} {live:List Bool}
def zIC (g:Geo) (dat:Nat→List (List Int)) (n:Int):List Int:=if g.cap≤n then zft else (dat (rowG g n).toNat).getD (zcY g n).toNat []
end
end Wf

namespace Wf
open Go Go.RowKit Go.Proofs
set_option linter.unusedSimpArgs false
set_option linter.unusedVariables false
set_option maxHeartbeats 4000000
def OldR (B:Ben) (live:List Bool) (a:Geo) (dat:Nat→List (List Int)) (lo:Int):Prop:=
 ∀ r:Nat,r < 16→lo≤r→∀ e:Int,0≤e→e < a.d→B.up live e=true→B.cur e (36+r)=atR a r (dat r) e
def winL (a to:Geo) (dat:Nat→List (List Int)) (k:Int):List (List Int):=(List.range ((zfj a to k).2 - (zfj a to k).1).toNat).map fun (j:Nat)=>zIC a dat ((zfj a to k).1+j)
section
variable {B B1:Ben} {live:List Bool} {a to:Geo} {dat:Nat→List (List Int)} {k:Int}
theorem OldR.mono {lo hi:Int} (h:OldR B live a dat lo) (hl:lo≤hi):OldR B live a dat hi:=fun r r1 r2=>h r r1 (by omega)
theorem OldR.read {lo:Int} (h:OldR B live a dat lo) (k0:0≤k) (k1:k < winP a to) (hlo:lo≤k*zdo a to) (hR:∀ r:Nat,r < 16→Row a (dat r)) (hdn:B.down=false) (hlost:(B.lostN live a:Int)≤a.l - 4):
  B.wRead live a to k=(winL a to dat k,0):=by
 have hW:=zG7 k0 k1;have hs0:=hW.s0
 refine zET k0 k1 (zIC a dat) fun n n0 n1=>?_
 unfold Ben.wOne zIC
 by_cases hc:a.cap≤n
 ·rw [if_pos hc,if_pos hc]
 ·rw [if_neg hc,if_neg hc]
  have hlt:n < a.cap:=by omega
  obtain ⟨hf,c0,c1,_⟩:=zii (show 0≤n by omega) hlt
  obtain ⟨hk,r0,r1⟩:=zbz.1 hf;have ho:=zIz hW n0 hlt
  have e:(((rowG a n).toNat:Nat):Int)=rowG a n:=by omega
  rw [zH8 (by omega) hlt (hR (rowG a n).toNat (by omega)) hdn fun d d0 d1 hu=>by
   have:=h (rowG a n).toNat (by omega) (by omega) d d0 d1 hu
   rw [e] at this; exact this]
  rw [if_pos (.inr hlost)]
end
end Wf

namespace Wf
open Go Go.RowKit Go.Proofs
set_option linter.unusedSimpArgs false
set_option linter.unusedVariables false
set_option maxHeartbeats 4000000
structure MvS (U V:Tb) (b:Nat) (idx:List Nat) (n:Nat) (live:List Bool) (a:Geo) (dat:Nat→List (List Int)) (lo:Int) (K:Int) (C:Ben):Prop where
 run:Run U V b idx C n K
 old:OldR C live a dat lo
 lost:(C.lostN live a:Int)≤a.l - 4
section
variable {U V:Tb} {b:Nat} {idx:List Nat} {n:Nat} {live:List Bool} {a to:Geo} {dat:Nat→List (List Int)} {lo K k:Int} {C:Ben}
end
end Wf

namespace Wf
open Go Go.RowKit Go.Proofs
set_option linter.unusedSimpArgs false
set_option linter.unusedVariables false
section
variable {g:Geo} {dat:Nat→List (List Int)}
end
end Wf

namespace Wf
open Go Go.RowKit Go.Proofs
set_option linter.unusedSimpArgs false
set_option linter.unusedVariables false
set_option maxHeartbeats 4000000
def crcB (x:Int):Int:=if bits .and .u32 x 1=1 then bits .xor .u32 (Int.fdiv x 2) 2197175160 else Int.fdiv x 2
def crcI (x:Int):Nat→Int
 | 0=>x
 | k+1=>crcB (crcI x k)
def crcC (x c:Int):Int:=crcI (bits .xor .u32 x (IntKind.u32.wrap c)) 8
def crcP (x:Int) (p:List Int):Int:=p.foldl crcC x
def crcS (ps:List (List Int)):Int:=bits .xor .u32 (ps.foldl crcP 4294967295) 4294967295
theorem zCD {α β:Type} (f:β→α→β) (b:β) {l:List α} {k:Nat} {a:α} (h:l[k]? =some a):(l.take (k+1)).foldl f b=f ((l.take k).foldl f b) a:=by
 rw [List.take_add_one,h]; simp
theorem zdq {k:Nat} (h:k < 1000000000):IntKind.i64.wrap ((k:Int)+1)=((k+1:Nat):Int):=by rw [zat (by omega) (by omega)]; omega
theorem zGB (tg:Tag) (ps:List Part) (hn:ps.length < 100000) (hl:∀ x∈ps,x.2.length < 100000):zem [.sl tg (pL ps)]=some (.int .u32 (crcS (ps.map (·.2)))):=by
 rw [zyS,zcV]
 have hlen:(ps.map fun x=>(zbN x.1 x.2,x.2)).length=ps.length:=by simp
 have hm:(ps.map fun x=>(zbN x.1 x.2,x.2)).map (·.2)=ps.map (·.2):=by rw [List.map_map]; rfl
 have hl':∀ x∈(ps.map fun x=>(zbN x.1 x.2,x.2)),x.2.length < 100000:=by intro x hx; obtain ⟨y,hy,rfl⟩:=List.mem_map.1 hx; exact hl y hy
 rw [←hlen] at hn;rw [←hm]
 generalize (ps.map fun x=>(zbN x.1 x.2,x.2))=rs at*
 clear hm hlen hl ps;unfold ztf;rw [zer]
 let st:Nat→(Int×List D×Int×Int×PUnit)×PUnit:=fun k=>((((rs.take k).map (·.2)).foldl crcP 4294967295,pL rs,(rs.length:Int),(k:Int),PUnit.unit),PUnit.unit)
 show zb1 _ (st 0)=_
 refine zb8 st rs.length (by omega) ?_ ?_
 ·intro again k hk;dsimp only [st];have hg:rs[k]? =some rs[k]:=List.getElem?_eq_getElem hk;have hpl:=hl' rs[k] (List.getElem_mem hk)
  have hk2:(k:Int) < (rs.length:Int):=by omega
  rw [decide_eq_true hk2,zaJ,zaa (by omega),Int.toNat_natCast,zak (zc4 hg),zdg]
  have e:((rs.take (k+1)).map (·.2)).foldl crcP 4294967295=crcP (((rs.take k).map (·.2)).foldl crcP 4294967295) rs[k].2:=by rw [List.take_add_one,hg,List.map_append,List.foldl_append]; rfl
  rw [e]
  generalize ((rs.take k).map (·.2)).foldl crcP 4294967295=x
  generalize rs[k].2=p at*
  let su:Nat→(Int×List D×Int×Int×(Tag×List D)×Int×Int×PUnit)×PUnit:=fun j=>(((p.take j).foldl crcC x,pL rs,(rs.length:Int),(k:Int),(rs[k].1,uL p),(p.length:Int),(j:Int),PUnit.unit),PUnit.unit)
  rw [zcI];show zb1 _ (su 0)=_
  refine zb8 su p.length (by omega) ?_ ?_
  ·intro again2 j hj;dsimp only [su];have hg2:p[j]? =some p[j]:=List.getElem?_eq_getElem hj
   have hj2:(j:Int) < (p.length:Int):=by omega
   rw [decide_eq_true hj2,zaJ,zaa (by omega),Int.toNat_natCast,zak (ziD hg2),zaX,zap,zap,zCD crcC _ hg2]
   generalize (p.take j).foldl crcC x=y;generalize p[j]=c
   let sv:Nat→(Int×List D×Int×Int×(Tag×List D)×Int×Int×Int×PUnit)×PUnit:=fun i=>((crcI (bits .xor .u32 y (IntKind.u32.wrap c)) i,pL rs,(rs.length:Int),(k:Int),(rs[k].1,uL p),(p.length:Int),(j:Int),(i:Int),PUnit.unit),PUnit.unit)
   show zb1 _ (sv 0)=_
   refine zb8 sv 8 (by omega) ?_ ?_
   ·intro again3 i hi;dsimp only [sv]
    have hi2:(i:Int) < 8:=by omega
    have hw:=zdq (k:=i) (by omega)
    rw [decide_eq_true hi2,zaJ,zap,zap];show _=again3 ((crcB (crcI _ i),_,_,_,_,_,_,_,_),_);unfold crcB
    by_cases h1:bits .and .u32 (crcI (bits .xor .u32 y (IntKind.u32.wrap c)) i) 1=1
    ·rw [zBb h1,if_pos h1,zap,zap,hw]
    ·rw [zDO h1,if_neg h1,zap,hw]
   ·intro again3;dsimp only [sv]
    rw [zfN (by omega),zap,zdq (by omega)]
    rfl
  ·intro again2;dsimp only [su]
   rw [zfN (by omega),zap,zdq (by omega),List.take_length]
   rfl
 ·intro again;dsimp only [st]
  rw [zfN (by omega),zap,List.take_length]
  rfl
structure Itm where
 d:Int
 a:Int
 x:List Int
def Itm.D (t:Tag) (i:Itm):Wf.D:=.agg [.int .i64 i.d,.int .i64 i.a,.sl t (uL i.x)]
def iL (t:Tag) (is:List Itm):List D:=is.map (Itm.D t)
def Itm.ok (i:Itm):Bool:=decide (0≤i.d) && (decide (i.d < 8) && (decide (36≤i.a) && (decide (i.a < 52) && ((i.x.length:Int) == 32))))
def Itm.same (y x:Itm):Bool:=y.d == x.d && y.a == x.a
def zxm (t:Tag):Prop:=∀ l,(D.sl t l).lent=.sl .lent (D.lentL l)
theorem zjP:zxm .lent:=fun l=>by simp [D.lent]
theorem ztD:zxm .fresh:=fun l=>by simp [D.lent]
theorem zqL {t:Tag} (h:zxm t) (is:List Itm):D.lentL (iL t is)=iL .lent is:=by
 unfold iL;rw [zje,List.map_map];apply List.map_congr_left;intro i _;show D.lent (Itm.D t i)=Itm.D .lent i;unfold Itm.D;have:=h (uL i.x);rw [zcH] at this;simp only [D.lent,zCe,zDM,zFB,this]
@[simp] theorem zvv (t:Tag) (is:List Itm):(iL t is).length=is.length:=by simp [iL]
theorem zBH {t:Tag} {is:List Itm} {k:Nat} {i:Itm} (h:is[k]? =some i):(iL t is)[k]? =some (.agg [.int .i64 i.d,.int .i64 i.a,.sl t (uL i.x)]):=by simp [iL,h,Itm.D]
theorem zGC (t:Tag) (is:List Itm):zrf 3 (iL t is)=true:=by simp [zrf,iL,Itm.D,D.cell,D.isAgg,D.width]
theorem zJW {t:Tag} {is:List Itm} {k:Nat}:cutI 0 (k:Int) (iL t is)=iL t (is.take k):=by simp [cutI,iL,List.map_take]
theorem record_fine (t:Tag) (i:Itm):zcx [.agg [.int .i64 i.d,.int .i64 i.a,.sl t (uL i.x)]]=some (.bool i.ok):=by
 rw [zrz,zcH];unfold zku Itm.ok;rw [zcI]
 by_cases h1:0≤i.d<;>by_cases h2:i.d < 8<;>by_cases h3:36≤i.a<;>by_cases h4:i.a < 52<;>simp [h1,h2,h3,h4]
theorem zxn (t:Tag) (y x:Itm):za4 [.agg [.int .i64 y.d,.int .i64 y.a,.sl t (uL y.x)],.at_ (.agg [.int .i64 x.d,.int .i64 x.a,.sl .lent (uL x.x)])]=some (.bool (y.same x)):=by
 rw [zn2];unfold zg4 Itm.same
 by_cases h:y.d=x.d
 ·rw [zBb h]; simp [h]
 ·rw [zDO h]; simp [h]
theorem zxo (tg:Tag) {t:Tag} (ht:zxm t) (is:List Itm) (x:Itm) (hn:is.length < 100000):
  ∃ r,zaq [.sl tg (iL t is),.fn ID.record_Check_1 [] [.at_ (.agg [.int .i64 x.d,.int .i64 x.a,.sl .lent (uL x.x)])]]=some r∧∃ i:Int,r=.int .i64 i∧decide (i≥0)=is.any fun y=>y.same x:=by
 rw [zdD,zqL ht,zcH];unfold zbR;rw [zvv]
 refine zwi (fun a=>(is.length:Int).toNat - a.1.2.2.2.1.toNat) _ (fun a=>∃ k:Nat,k≤is.length∧((is.take k).any fun y=>y.same x)=false∧
  a=((iL .lent is,D.agg [D.int IntKind.i64 x.d,D.int IntKind.i64 x.a,D.sl Tag.lent (uL x.x)],(is.length:Int),(k:Int),PUnit.unit),PUnit.unit)) ?_ ⟨0,by omega,rfl,rfl⟩ (by simp; omega)
 rintro again _ ⟨k,hk,hf,rfl⟩ ih
 dsimp only
 by_cases hl:k < is.length
 ·have hg:is[k]? =some is[k]:=List.getElem?_eq_getElem hl
  have hk2:(k:Int) < (is.length:Int):=by omega
  rw [decide_eq_true hk2,zaJ,zaa (by omega),Int.toNat_natCast,zak (zBH hg),zeJ,zb7,zb7,zgt,zch]
  dsimp only;rw [zxn,zab,zbe];cases hs:is[k].same x
  ·rw [zan,zap,zdq (by omega)]
   refine ih _ ⟨k+1,by omega,?_,rfl⟩ (by dsimp only; omega)
   rw [List.take_add_one,hg,List.any_append,hf];simp [hs]
  ·rw [zaJ];refine ⟨_,rfl,(k:Int),rfl,?_⟩;rw [List.any_eq_true.2 ⟨is[k],List.getElem_mem hl,hs⟩];simp
 ·rw [zfN (by omega)]
  refine ⟨_,rfl,-1,rfl,?_⟩
  rw [List.take_of_length_le (by omega)] at hf
  rw [hf]; rfl
theorem zrE (tg:Tag) {t:Tag} (ht:zxm t) (is:List Itm) (x:Itm) (hn:is.length < 100000):
  zal [.sl tg (iL t is),.fn ID.record_Check_1 [] [.at_ (.agg [.int .i64 x.d,.int .i64 x.a,.sl .lent (uL x.x)])]]=some (.bool (is.any fun y=>y.same x)):=by
 rw [zdp,zqL ht,zcH];unfold zbF;obtain ⟨r,h1,i,rfl,h2⟩:=zxo .lent zjP is x hn;rw [h1,zab,zaX,h2]
def zeS (is:List Itm):Nat→Bool
 | 0=>true
 | k+1=>zeS is k && match is[k]? with
  | some x=>x.ok && !((is.take k).any fun y=>y.same x)
  | none=>true
def recE (seq:Int) (is:List Itm):Int:=if seq < 1∨2147483647 < seq∨3 < is.length∨zeS is is.length=false then 1 else 0
theorem zvw {is:List Itm}:∀ {n k:Nat},k≤n→zeS is k=false→zeS is n=false
 | 0,k,h,hf=>by rwa [show k=0 by omega] at hf
 | n+1,k,h,hf=>by
  by_cases e:k=n+1
  ·rwa [e] at hf
  ·unfold zeS; rw [zvw (n:=n) (by omega) hf]; rfl
theorem zrc (tg:Tag) {t:Tag} (ht:zxm t) (seq:Int) (is:List Itm):zbh [.agg [.int .i64 seq,.sl tg (iL t is)]]=some (.int .i64 (recE seq is)):=by
 rw [zqy,zqL ht];unfold ziY recE;rw [zvv]
 by_cases h1:seq < 1
 ·rw [zlq h1,if_pos (.inl h1)]
 rw [zfN h1]
 by_cases h2:2147483647 < seq
 ·rw [zlq (by omega),if_pos (.inr (.inl h2))]
 rw [zfN (by omega)]
 by_cases h3:3 < is.length
 ·rw [zlq (by omega),if_pos (.inr (.inr (.inl h3)))]
 rw [zfN (by omega)]
 refine zfG (fun a=>is.length - a.1.2.2.2.1.toNat) (fun _=>some (D.int .i64 (if seq < 1∨2147483647 < seq∨3 < is.length∨zeS is is.length=false then 1 else 0))) (fun a=>∃ k:Nat,k≤is.length∧zeS is k=true∧
   a=(((seq,iL .lent is,PUnit.unit),iL .lent is,(is.length:Int),(k:Int),PUnit.unit),PUnit.unit)) ?_ ⟨0,by omega,rfl,rfl⟩ (by simp; omega)
 rintro again _ ⟨k,hk,hf,rfl⟩ ih
 dsimp only
 by_cases hl:k < is.length
 ·have hg:is[k]? =some is[k]:=List.getElem?_eq_getElem hl
  have hk2:(k:Int) < (is.length:Int):=by omega
  have hs:zeS is (k+1)=(is[k].ok && !((is.take k).any fun y=>y.same is[k])):=by
   show (zeS is k && match is[k]? with | some x=>x.ok && !((is.take k).any fun y=>y.same x) | none=>true)=_
   rw [hf,hg]; rfl
  have hbad:zeS is (k+1)=false→(if seq < 1∨2147483647 < seq∨3 < is.length∨zeS is is.length=false then (1:Int) else 0)=1:=fun h=>if_pos (.inr (.inr (.inr (zvw (by omega) h))))
  rw [decide_eq_true hk2,zaJ,zaa (by omega),Int.toNat_natCast,zak (zBH hg),zeJ,zb7,zb7,zgt,zch]
  dsimp only;rw [record_fine,zab,zbe];cases ho:is[k].ok
  ·rw [Bool.not_false,zaJ,hbad (by rw [hs,ho]; rfl)]
  rw [Bool.not_true,zan,zaa (by omega),zaa (by rw [zvv]; omega),zaa rfl,zaa (zGC _ _),zJW,zrE _ zjP _ _ (by simp; omega),zab,zbe]
  cases hc:(is.take k).any fun y=>y.same is[k]
  ·rw [zan,zap,zdq (by omega)]
   exact ih _ ⟨k+1,by omega,by rw [hs,ho,hc]; rfl,rfl⟩ (by dsimp only; omega)
  ·rw [zaJ,hbad (by rw [hs,ho,hc]; rfl)]
 ·have:k=is.length:=by omega
  subst this
  rw [zfN (by omega),if_neg (by rw [hf]; simp; omega)]
theorem zGD (l:List Int):zrf 1 (uL l)=true:=by simp [zrf,uL,D.cell,D.width]
theorem zzi (ps:List Part):zd9 1 (pL ps)=true:=by simp [zd9,pL,D.cell,D.width]
theorem zGE (tg tg2:Tag) {h:List Int} (hh:h.length=32) {ps:List Part} (h0:ps≠[]) (hn:ps.length < 90000) (hl:∀ x∈ps,x.2.length < 100000):zen [.sl tg (uL h),.sl tg2 (pL ps)]=some (.int .u32 (crcS (h.take 28::ps.map (·.2)))):=by
 rw [zyU,zcV,zcH]
 have hlen:(ps.map fun x=>(zbN x.1 x.2,x.2)).length=ps.length:=by simp
 have hm:(ps.map fun x=>(zbN x.1 x.2,x.2)).map (·.2)=ps.map (·.2):=by rw [List.map_map]; rfl
 have hl':∀ x∈(ps.map fun x=>(zbN x.1 x.2,x.2)),x.2.length < 100000:=by intro x hx; obtain ⟨y,hy,rfl⟩:=List.mem_map.1 hx; exact hl y hy
 have h0':(ps.map fun x=>(zbN x.1 x.2,x.2))≠[]:=by intro q; rw [List.map_eq_nil_iff] at q; exact h0 q
 rw [←hlen] at hn;rw [←hm]
 generalize (ps.map fun x=>(zbN x.1 x.2,x.2))=rs at*
 clear hm hlen hl ps h0;unfold zth
 have hc:cutI 0 28 (uL h)=uL (h.take 28):=by unfold cutI; rw [←zwu]; rfl
 have hs:∀ b,zdX Tag.lent true b=.lent:=fun _=>rfl
 have hp:[D.sl Tag.lent (uL (h.take 28))]++pL rs=pL ((Tag.lent,h.take 28)::rs):=rfl
 have hne:pL rs≠[]:=by unfold pL; rw [ne_eq,List.map_eq_nil_iff]; exact h0'
 have hcut:cut 0 (1+(pL rs).length) (pL ((Tag.lent,h.take 28)::rs))=pL ((Tag.lent,h.take 28)::rs):=by
  have e:1+(pL rs).length=(pL ((Tag.lent,h.take 28)::rs)).length:=by rw [zer,zer,List.length_cons]; omega
  rw [e,zbW]
 rw [zaa (by rw [zcI]; omega),zaa (zGD h),zaa hne,zaa (by rw [zer]; omega),zaa (zzi rs),hs,hc,hp,zaa (by rw [zer,zer,List.length_cons]; omega),hcut,
  zGB .lent _ (by rw [List.length_cons]; omega) (by
   intro x hx;rcases List.mem_cons.1 hx with rfl | hx
   ·simp; omega
   ·exact hl' x hx),zab,zaX]
 rfl
def zup (h:List Int) (ps:List (List Int)):List Int:=
 (((h.set 28 (IntKind.u8.wrap (Int.fdiv (crcS (h.take 28::ps)) 16777216))).set 29 (IntKind.u8.wrap (Int.fdiv (crcS (h.take 28::ps)) 65536))).set 30 (IntKind.u8.wrap (Int.fdiv (crcS (h.take 28::ps)) 256))).set 31 (IntKind.u8.wrap (Int.fdiv (crcS (h.take 28::ps)) 1))
theorem zzj {h:List Int} (hh:Sec h) (ps:List (List Int)):Sec (zup h ps):=by
 refine ⟨by unfold zup; simp [hh.len],fun n hn=>?_⟩
 unfold zup at hn;rcases List.mem_or_eq_of_mem_set hn with hn | rfl
 ·rcases List.mem_or_eq_of_mem_set hn with hn | rfl
  ·rcases List.mem_or_eq_of_mem_set hn with hn | rfl
   ·rcases List.mem_or_eq_of_mem_set hn with hn | rfl
    ·exact hh.byt n hn
    ·exact zfV _
   ·exact zfV _
  ·exact zfV _
 ·exact zfV _
theorem zGF (tg:Tag) {h:List Int} (hh:h.length=32) {ps:List Part} (h0:ps≠[]) (hn:ps.length < 90000) (hl:∀ x∈ps,x.2.length < 100000):zdJ [.sl .own (uL h),.sl tg (pL ps)] []=some (Ans.mk (.bool true) [uL (zup h (ps.map (·.2)))] []):=by
 rw [zw3,zcV]
 have hlen:(ps.map fun x=>(zbN x.1 x.2,x.2)).length=ps.length:=by simp
 have hm:(ps.map fun x=>(zbN x.1 x.2,x.2)).map (·.2)=ps.map (·.2):=by rw [List.map_map]; rfl
 have hl':∀ x∈(ps.map fun x=>(zbN x.1 x.2,x.2)),x.2.length < 100000:=by intro x hx; obtain ⟨y,hy,rfl⟩:=List.mem_map.1 hx; exact hl y hy
 have h0':(ps.map fun x=>(zbN x.1 x.2,x.2))≠[]:=by intro q; rw [List.map_eq_nil_iff] at q; exact h0 q
 rw [←hlen] at hn;rw [←hm]
 generalize (ps.map fun x=>(zbN x.1 x.2,x.2))=rs at*
 clear hm hlen hl ps h0;unfold zqz
 have g:∀ (l:List Int) (i:Nat),l.length=32→i < 32→∀ f:D→Option Ans,getK (uL l) i f=f (.int .u8 (getB l i)):=fun l i hl hi f=>zak (ziD (zls (by omega))) f
 have ia:∀ n:Int,D.isAgg (.int .u8 n)=false:=fun _=>rfl
 rw [zaa (by omega),zcI,zha (by omega),zaa (by omega)]
 rw [show cut 0 h.length (uL h)=uL h from zmc (zcI h),zGE .lent .lent hh h0' hn hl',zab,zaX]
 unfold zup
 generalize crcS (h.take 28::rs.map (·.2))=c
 rw [zap,zap,zaa (by omega),g _ _ hh (by omega),zaa (ia _),zap,zap,zaa (by omega),zsI,g _ _ (by simp [hh]) (by omega),zaa (ia _),zap,zap,zaa (by omega),zsI,g _ _ (by simp [hh]) (by omega),zaa (ia _),
  zap,zap,zaa (by omega),zsI,g _ _ (by simp [hh]) (by omega),zaa (ia _),zsI,zaa (zu5 _)]
def zm7 (seq:Int) (n:Nat) (is:List Itm):List Int:=[87,82,69,67,IntKind.u8.wrap (Int.fdiv seq 16777216),IntKind.u8.wrap (Int.fdiv seq 65536),IntKind.u8.wrap (Int.fdiv seq 256),IntKind.u8.wrap seq,IntKind.u8.wrap (n:Int)]++is.flatMap fun i=>[IntKind.u8.wrap i.d,IntKind.u8.wrap i.a]
def ztE (seq:Int) (is:List Itm):List Int:=zm7 seq is.length is++List.replicate (32 - (zm7 seq is.length is).length) 0
def zij (is:List Itm):List (List Int):=is.map (·.x)++List.replicate (3 - is.length) zft
def encR (seq:Int) (is:List Itm):List (List Int):=zup (ztE seq is) (zij is)::zij is
theorem ztF (seq:Int) (n:Nat) (is:List Itm):(zm7 seq n is).length=9+2*is.length:=by
 unfold zm7;rw [List.length_append]
 have:(is.flatMap fun i=>[IntKind.u8.wrap i.d,IntKind.u8.wrap i.a]).length=2*is.length:=by
  induction is with
  | nil=>rfl
  | cons i is ih=>rw [List.flatMap_cons,List.length_append,ih,List.length_cons]; simp; omega
 rw [this]; simp
theorem zEV (seq:Int) (n:Nat) (is:List Itm):∀ x∈zm7 seq n is,0≤x∧x < 256:=by
 intro x hx;unfold zm7 at hx;rcases List.mem_append.1 hx with hx | hx
 ·simp only [List.mem_cons,List.not_mem_nil,or_false] at hx;rcases hx with rfl | rfl | rfl | rfl | rfl | rfl | rfl | rfl | rfl
  ·omega
  ·omega
  ·omega
  ·omega
  all_goals exact zfV _
 ·obtain ⟨i,_,hx⟩:=List.mem_flatMap.1 hx;simp only [List.mem_cons,List.not_mem_nil,or_false] at hx;rcases hx with rfl | rfl<;>exact zfV _
theorem ztG (seq:Int) {is:List Itm} (h:is.length≤3):Sec (ztE seq is):=by
 have hl:=ztF seq is.length is
 refine ⟨by unfold ztE; simp; omega,fun x hx=>?_⟩
 rcases List.mem_append.1 hx with hx | hx
 ·exact zEV _ _ _ x hx
 ·rw [(List.mem_replicate.1 hx).2]; omega
theorem zvx {is:List Itm} (h:is.length≤3):(zij is).length=3:=by unfold zij; simp; omega
theorem zvy {is:List Itm} (h:∀ i∈is,Sec i.x):∀ x∈zij is,Sec x:=by
 intro x hx;rcases List.mem_append.1 hx with hx | hx
 ·obtain ⟨i,hi,rfl⟩:=List.mem_map.1 hx; exact h i hi
 ·rw [(List.mem_replicate.1 hx).2]; exact zjn
theorem zrT (seq:Int) {is:List Itm} (h:is.length≤3):(encR seq is).length=4:=by unfold encR; rw [List.length_cons,zvx h]
theorem zxp (seq:Int) {is:List Itm} (h:is.length≤3) (hs:∀ i∈is,Sec i.x):∀ x∈encR seq is,Sec x:=by
 intro x hx;rcases List.mem_cons.1 hx with rfl | hx
 ·exact zzj (ztG seq h) _
 ·exact zvy hs x hx
theorem zmC {seq:Int} {is:List Itm} (h:recE seq is=0):is.length≤3∧1≤seq∧seq≤2147483647:=by
 unfold recE at h;split at h
 ·cases h
 ·omega
theorem zxq (tg:Tag) {t:Tag} (ht:zxm t) (seq:Int) {is:List Itm} (hs:∀ i∈is,Sec i.x):
  zb4 [.agg [.int .i64 seq,.sl tg (iL t is)]]=some (.tup [.sl .own (pL (fP (if recE seq is=0 then encR seq is else []))),.int .i64 (recE seq is)]):=by
 rw [zpz,zqL ht];unfold zic;rw [zrc .lent zjP,zab,zaX]
 by_cases he:recE seq is=0
 rotate_left
 ·rw [zoN he,if_neg he]; rfl
 rw [zha he,if_pos he,he];obtain ⟨h3,_,_⟩:=zmC he;rw [zap,zap,zap,zap,zap,zap,zap,zap,zvv]
 let st:Nat→(List D×List D×List D×Int×Int×PUnit)×PUnit:=fun k=>((uL (zm7 seq is.length (is.take k)),pL (fP ((is.take k).map (·.x))),iL .lent is,(is.length:Int),(k:Int),PUnit.unit),PUnit.unit)
 show zb1 _ (st 0)=_
 refine zb8 st is.length (by omega) ?_ ?_
 ·intro again k hk;dsimp only [st];have hg:is[k]? =some is[k]:=List.getElem?_eq_getElem hk
  have hk2:(k:Int) < (is.length:Int):=by omega
  have hx:=(hs _ (List.getElem_mem hk)).len
  have e1:zm7 seq is.length (is.take (k+1))=zm7 seq is.length (is.take k)++[IntKind.u8.wrap is[k].d,IntKind.u8.wrap is[k].a]:=by
   unfold zm7; rw [List.take_add_one,hg,List.flatMap_append,List.append_assoc]; rfl
  have e2:(is.take (k+1)).map (·.x)=(is.take k).map (·.x)++[is[k].x]:=by rw [List.take_add_one,hg,List.map_append]; rfl
  have l1:=ztF seq is.length (is.take k)
  have l2:(is.take k).length=k:=by simp; omega
  rw [l2] at l1
  have u1:∀ a b:Int,uL (zm7 seq is.length (is.take k))++[D.int .u8 a,D.int .u8 b]=uL (zm7 seq is.length (is.take k)++[a,b]):=fun a b=>by simp [uL]
  rw [decide_eq_true hk2,zaJ,zaa (by omega),Int.toNat_natCast,zak (zBH hg),zeJ,zb7,zb7,zgt,zch]
  dsimp only
  rw [zap,zap,zaa (by rw [zcI]; omega),zaa rfl,zog (by omega),zab,zbl,zaa (by omega),zaa (by rw [zer,zhm]; simp; omega),zaa rfl,zap,zdq (by omega),u1,zbW,zxh,e1,e2,
   zaa (by rw [zcI,zcI]; simp),zaa (by rw [zer,zer,zhm,zhm]; simp)]
 ·intro again;dsimp only [st];rw [List.take_length];have l1:=ztF seq is.length is
  have w1:IntKind.i64.wrap (32 - ((uL (zm7 seq is.length is)).length:Int))=((32 - (zm7 seq is.length is).length:Nat):Int):=by rw [zcI,zat (by omega) (by omega)]; omega
  have u1:uL (zm7 seq is.length is)++List.replicate (32 - (zm7 seq is.length is).length) (D.int .u8 0)=uL (ztE seq is):=by unfold ztE; simp [uL]
  have l2:=(ztG seq h3).len
  rw [zfN (by omega),zaa (by omega),zap,w1,zaa (by omega),Int.toNat_natCast,zaa (by rw [zcI]; omega),zaa rfl,u1,zaa (by rw [zcI,zcI]; omega),zaa rfl]
  let su:Nat→(List D×List D×PUnit)×PUnit:=fun j=>((uL (ztE seq is),pL (fP (is.map (·.x)++List.replicate j zft)),PUnit.unit),PUnit.unit)
  have hsu:su 0=((uL (ztE seq is),pL (fP (is.map (·.x))),PUnit.unit),PUnit.unit):=by simp [su]
  rw [←hsu]
  refine zb8 su (3 - is.length) (by omega) ?_ ?_
  ·intro again2 j hj;dsimp only [su]
   have l3:(pL (fP (is.map (·.x)++List.replicate j zft))).length=is.length+j:=by simp
   have z:∀ l:List D,l++[D.sl Tag.fresh (uL zft)]=l++[D.sl Tag.fresh (uL (List.replicate 32 0))]:=fun _=>rfl
   have e2:pL (fP (is.map (·.x)++List.replicate (j+1) zft))=pL (fP (is.map (·.x)++List.replicate j zft))++[D.sl Tag.fresh (uL (List.replicate 32 0))]:=by
    rw [←z,zxh,List.append_assoc,←List.replicate_succ']
   rw [e2]
   rw [zaa (by omega),l3,zlq (by omega),zaa (by omega),zaa rfl,zaa rfl]
   rw [zaa (by rw [List.length_append,l3]; rfl)]
   rfl
  ·intro again2;dsimp only [su]
   have hp:is.map (·.x)++List.replicate (3 - is.length) zft=zij is:=rfl
   rw [hp];have l3:=zvx h3
   have hne:fP (zij is)≠[]:=by intro q; have:=congrArg List.length q; rw [zhm,l3] at this; cases this
   have hsec:=zvy hs
   have l4:(pL (fP (zij is))).length=3:=by rw [zer,zhm,l3]
   have hseal:=zGF .lent l2 hne (by rw [zhm,l3]; omega) (by
    intro x hx; obtain ⟨y,hy,rfl⟩:=List.mem_map.1 hx; have:=(hsec y hy).len; dsimp only; omega)
   rw [zpJ] at hseal
   have l5:(uL (zup (ztE seq is) (zij is))).length=32:=by rw [zcI]; exact (zzj (ztG seq h3) _).len
   have hen:[D.sl Tag.fresh (uL (zup (ztE seq is) (zij is)))]++pL (fP (zij is))=pL (fP (encR seq is)):=rfl;have c3:cut 0 3 (pL (fP (zij is)))=pL (fP (zij is)):=zmc l4;have c5:cut 0 32 (uL (zup (ztE seq is) (zij is)))=uL (zup (ztE seq is) (zij is)):=zmc l5
   rw [zaa (by omega),l4,zfN (by omega),zaa rfl,zaa (zu5 _),zaa (by omega),c3,hseal,zab]
   dsimp only
   rw [zcI,l2,zbV,zaa l5,zaP,zaP,zbe,zaa (by omega),zaa (by omega),zaa (by intro q; rw [q] at l4; cases l4),zaa (by omega),zaa (zzi _),c5,hen,zaa (by rw [zer,zer,zhm,zhm,zrT seq h3,l3]),zaa (zgF _)]
end Wf

namespace Wf
open Go Go.RowKit Go.Proofs
set_option linter.unusedSimpArgs false
set_option linter.unusedVariables false
set_option maxHeartbeats 4000000
theorem zvz {α β:Type} (g:α→List β) (L:List α):∀ (l:List α) (s:Nat),(∀ j,j < l.length→L[s+j]? =l[j]?)→((List.range' s l.length).flatMap fun k=>(L[k]?).elim [] g)=l.flatMap g
 | [],s,_=>rfl
 | a::l,s,h=>by
  have h0:=h 0 (by simp)
  rw [Nat.add_zero] at h0;rw [List.length_cons,List.range'_succ,List.flatMap_cons,List.flatMap_cons,h0]
  rw [zvz g L l (s+1) fun j hj=>by
   have:=h (j+1) (by simp; omega)
   rw [show s+1+j=s+(j+1) by omega,this]; rfl]
  rfl
theorem zok {α β:Type} (g:α→List β) (l:List α):((List.range' 0 l.length).flatMap fun k=>(l[k]?).elim [] g)=l.flatMap g:=zvz g l l 0 fun j _=>by rw [Nat.zero_add]
def Ben.onL (B:Ben) (live:List Bool):List Int:=((List.range B.ds.length).filter fun (d:Nat)=>B.up live d).map fun (d:Nat)=>(d:Int)
def Ben.NoF (B:Ben) (live:List Bool):Prop:=∀ d:Int,0≤d→d < B.n→(live[d.toNat]?).getD false=true→B.failed d=false
theorem NoF.up {B:Ben} {live:List Bool} (h:B.NoF live) {d:Int} (d0:0≤d):B.up live d=(decide (d < B.n) && (live[d.toNat]?).getD false):=by
 unfold Ben.up
 by_cases h1:d < B.n
 ·cases h2:(live[d.toNat]?).getD false
  ·simp
  ·rw [h d d0 h1 h2]; simp
 ·simp [h1]
theorem ztH {B:Ben} {live:List Bool} {d:Int}:d∈B.onL live↔0≤d∧B.up live d=true:=by
 unfold Ben.onL;rw [List.mem_map];constructor
 ·rintro ⟨k,hk,rfl⟩
  exact ⟨by omega,(List.mem_filter.1 hk).2⟩
 ·rintro ⟨d0,hu⟩
  refine ⟨d.toNat,List.mem_filter.2 ⟨List.mem_range.2 ?_,?_⟩,by omega⟩
  ·have:=zzd hu; unfold Ben.n at this; omega
  ·rw [show ((d.toNat:Nat):Int)=d by omega]; exact hu
theorem zik {B:Ben} {live:List Bool} {d:Int} (h:B.up live d=true):B.failed d=false:=by
 unfold Ben.up at h;simp only [Bool.and_eq_true,Bool.not_eq_true'] at h;exact h.2.2
theorem zID (B:Ben) (live:List Bool):(B.onL live).map Act.f=B.fActs live:=by
 unfold Ben.onL Ben.fActs;rw [List.map_map];generalize List.range B.ds.length=l
 induction l with
 | nil=>rfl
 | cons k l ih=>
  rw [List.flatMap_cons,List.filter_cons,←ih]
  by_cases h:B.up live (k:Int)=true
  ·rw [if_pos h,if_pos h]; rfl
  ·rw [if_neg h,if_neg h]; rfl
theorem zmh {l:List Int} {k:Nat} {d:Int} (h:l[k]? =some d):(intL l)[k]? =some (.int .i64 d):=by simp [intL,h]
theorem zCE (l:List Int):(intL l).all D.free=true:=by
 simp [intL,List.all_eq_true]; intro n _; rfl
theorem zzk {B:Ben} {d a:Int} {x:List Int} (h:B.failed d=false):(B.write d a x).1≠5:=by
 unfold Ben.write;split
 ·unfold Ben.may; split
  ·split<;>simp
  ·simp
 ·rename_i h0;have hd:=(may0.1 (Classical.not_not.1 h0)).1;rw [zgO hd] at h;split
  ·show (putR _ _ _).2≠5;unfold putR DS.may;rw [h]
   by_cases hl:x.length=32<;>by_cases ha:a < 0∨52≤a<;>simp [hl,ha]
  ·split<;>simp
theorem zEW {B:Ben} {d:Int} (h:B.failed d=false):(B.flush d).1≠5:=by
 unfold Ben.flush;split
 ·unfold Ben.may; split
  ·split<;>simp
  ·simp
 ·rename_i h0;have hd:=(may0.1 (Classical.not_not.1 h0)).1;rw [zgO hd] at h;show (DS.flush _).1≠5;unfold DS.flush; rw [h]; simp
theorem log_bad (e:Int):zbS [.int .i64 e]=some (.bool (e != 0 && e != 5)):=by
 rw [zyW];unfold ztm
 by_cases h:e=0
 ·rw [zha h]; simp [h]
 ·rw [zoN h]; simp [h]
section
variable {T0 T1:Tb} {b:Nat} {idx:List Nat} {B:Ben}
theorem log_is (tg:Tag) (live:List Bool) {d:Int} (d0:0≤d):zdc [.sl tg (live.map D.bool),.int .i64 d]=some (.bool ((live[d.toNat]?).getD false)):=by
 rw [zAj,zfM];unfold zw4
 rw [zlq (by omega),List.length_map]
 by_cases h:d < live.length
 ·have e:live[d.toNat]? =some (live[d.toNat]'(by omega)):=List.getElem?_eq_getElem (by omega)
  have e':(live.map D.bool)[d.toNat]? =some (.bool (live[d.toNat]'(by omega))):=by simp [e]
  rw [zlq h,zaa d0,zak e',zbe,e]; rfl
 ·rw [zfN h,List.getElem?_eq_none (by omega)]; rfl
theorem log_disks (h:At T0 T1 b idx B) (tg:Tag) {live:List Bool} (hf:B.NoF live):zdj [.h kB b 0,.sl tg (live.map D.bool)] [P0 T0 b idx B]=some (Ans.mk (.sl .own (intL (B.onL live))) [] []):=by
 rw [zuf,zfM];unfold zn4;have hsm:=h.ok.small;rw [zAr h,zab];dsimp only;rw [zaP,zaP,zaX]
 let L:Nat→List Int:=fun k=>((List.range k).filter fun (d:Nat)=>B.up live d).map fun (d:Nat)=>(d:Int)
 let st:Nat→(List D×List D×Int×Int×PUnit)×List (List D)×PUnit:=fun k=>((live.map D.bool,intL (L k),B.n,(k:Int),PUnit.unit),P0 T0 b idx B,PUnit.unit)
 have hL:∀ k,(L k).length≤k:=fun k=>by
  show (List.map _ _).length≤k;rw [List.length_map]
  have:=List.length_filter_le (fun (d:Nat)=>B.up live d) (List.range k)
  rw [List.length_range] at this; exact this
 show zb1 _ (st 0)=_
 refine zb8 st B.ds.length (by omega) ?_ ?_
 ·intro again k hk;dsimp only [st]
  have hn:(k:Int) < B.n:=by unfold Ben.n; omega
  have hu:=NoF.up hf (d:=(k:Int)) (by omega)
  rw [decide_eq_true hn,Bool.true_and] at hu;have hl:=hL k
  rw [zlq hn,log_is .lent live (by omega),zab,zbe,←hu]
  have e:L (k+1)=L k++(if B.up live (k:Int)=true then [(k:Int)] else []):=by
   show List.map _ _=List.map _ _++_;rw [List.range_succ,List.filter_append,List.map_append];congr 1
   by_cases h:B.up live (k:Int)=true
   ·rw [if_pos h,List.filter_cons,if_pos h]; rfl
   ·rw [if_neg h,List.filter_cons,if_neg h]; rfl
  rw [e];cases hv:B.up live (k:Int)
  ·rw [zan,zap,zdq (by omega),zaa rfl,if_neg (by simp),List.append_nil]
  ·have u:intL (L k)++[D.int .i64 (k:Int)]=intL (L k++[(k:Int)]):=by simp [intL]
   rw [zaJ,zaa (by rw [zc8]; omega),zaa rfl,zap,zdq (by omega),if_pos rfl,u,zaa (by rw [zc8,zc8]; simp)]
 ·intro again;dsimp only [st]
  rw [zfN (by unfold Ben.n; omega),zaa rfl,zaa (zCE _)]
  rfl
theorem log_flush (h:At T0 T1 b idx B) (hw:B.w≤999000) (tg:Tag) {l:List Int} (hl:l.length < 1000) (hf:∀ d∈l,B.failed d=false):
  zbZ [.h kB b 0,.sl tg (intL l)] [P0 T0 b idx B,P1 T1 idx B]=some (Ans.mk (.int .i64 (runA (l.map Act.f) B).1) [] [P1 T1 idx (runA (l.map Act.f) B).2]):=by
 rw [zug,zjl];unfold zn7
 let acts:Nat→List Act:=fun k=>(l[k]?).elim [] fun d=>[.f d]
 have hacts:l.map Act.f=(List.range' 0 l.length).flatMap acts:=by
  have:=zok (fun d=>[Act.f d]) l
  rw [←List.map_eq_flatMap] at this;exact this.symm
 rw [hacts,←zme]
 let st:Nat→Ben→(Nat×List D×Int×Int×PUnit)×List (List D)×List (List D)×PUnit:=fun k B'=>((b,intL l,(l.length:Int),(k:Int),PUnit.unit),P0 T0 b idx B,P1 T1 idx B',PUnit.unit)
 have hst:st 0 B=((b,intL l,((intL l).length:Int),0,PUnit.unit),P0 T0 b idx B,P1 T1 idx B,PUnit.unit):=by rw [zc8]; rfl
 rw [←hst]
 refine zoV (fun k B'=>runA (acts k) B') (fun k B'=>Nx 0 B B'∧Like B B'∧P0 T0 b idx B'=P0 T0 b idx B) st (fun y=>some (Ans.mk (.int .i64 y.1) [] [P1 T1 idx y.2])) l.length (by omega) ⟨.rfl' h.ok (by omega),.refl B,rfl⟩ ?_ ?_ ?_
 ·rintro k B' hk' ⟨hx,hL,h0⟩ he
  have e:acts k=[.f l[k]]:=by dsimp only [acts]; rw [List.getElem?_eq_getElem hk']; rfl
  rw [e,zmB]
  refine ⟨(hx.trans (zBj hx.ok)).mono (by omega),hL.trans (zvt hx.ok _),?_⟩
  show P0 T0 b idx (B'.flush l[k]).2=_;rw [←h0];unfold Ben.flush;split<;>rfl
 ·rintro again k B' hk' ⟨hx,hL,h0⟩
  dsimp only [st];have hg:l[k]? =some l[k]:=List.getElem?_eq_getElem hk'
  have e:acts k=[.f l[k]]:=by dsimp only [acts]; rw [hg]; rfl
  have hA:=h.nx hx;have hxw:=hx.w
  have hfl:=zIg hA (by omega) l[k]
  rw [h0] at hfl
  have h5:=zEW (B:=B') (d:=l[k]) (by rw [hL.2]; exact hf _ (List.getElem_mem hk'))
  have hk2:(k:Int) < (l.length:Int):=by omega
  rw [e,zmB,decide_eq_true hk2,zaJ,zaa (by omega),Int.toNat_natCast,zak (zmh hg),zaX,hfl,zab]
  dsimp only;rw [zaP,zbV,zaP,zaX,log_bad,zab,zbe]
  show brK ((B'.flush l[k]).1 != 0 && (B'.flush l[k]).1 != 5) _ _=if (B'.flush l[k]).1=0 then _ else _
  by_cases he:(B'.flush l[k]).1=0
  ·rw [if_pos he,he];show brK false _ _=_
   rw [zan,zap,zdq (by omega)]
   rfl
  ·rw [if_neg he,show ((B'.flush l[k]).1 != 0 && (B'.flush l[k]).1 != 5)=true by simp [he,h5],zaJ]
   rfl
 ·rintro again B' ⟨hx,hL,h0⟩
  dsimp only [st]
  rw [zfN (by omega)]
def zmi (on:List Int) (l:List (List Int)):List Act:=on.flatMap fun d=>(List.range' 0 l.length).flatMap fun (i:Nat)=>(l[i]?).elim [] fun x=>[Act.w d (2+(i:Int)) x]
def Ben.put (B:Ben) (live:List Bool) (seq:Int) (is:List Itm):Int×Ben:=if recE seq is=0 then runA (zmi (B.onL live) (encR seq is)++B.fActs live) B else (recE seq is,B)
theorem zG8 {l:List (List Int)} (h:l.length=4) (d:Int):nW ((List.range' 0 l.length).flatMap fun (i:Nat)=>(l[i]?).elim [] fun x=>[Act.w d (2+(i:Int)) x])=4:=by
 match l,h with
 | [a,b,c,e],_=>rfl
theorem zEX (B:Ben) (live:List Bool):(B.onL live).length≤B.ds.length:=by
 unfold Ben.onL;rw [List.length_map]
 have:=List.length_filter_le (fun (d:Nat)=>B.up live d) (List.range B.ds.length)
 rw [List.length_range] at this; exact this
theorem zIE (h:At T0 T1 b idx B) (hw:B.w≤998000) (tg:Tag) {live:List Bool} (hf:B.NoF live) (tg2:Tag) {t:Tag} (ht:zxm t) (seq:Int) {is:List Itm} (hs:∀ i∈is,Sec i.x):
  zeo [.h kB b 0,.sl tg (live.map D.bool),.agg [.int .i64 seq,.sl tg2 (iL t is)]] [P0 T0 b idx B,P1 T1 idx B]=some (Ans.mk (.int .i64 (B.put live seq is).1) [] [P0 T0 b idx (B.put live seq is).2,P1 T1 idx (B.put live seq is).2]):=by
 rw [zyY,zfM,zqL ht];unfold ztp Ben.put;rw [zxq .lent zjP seq hs,zab,zdm,zc5];dsimp only;rw [zbl,zaX]
 by_cases he:recE seq is=0
 rotate_left
 ·rw [zoN he,if_neg he]
 rw [zha he,if_pos he,if_pos he,log_disks h .lent hf,zab];obtain ⟨h3,_,_⟩:=zmC he;have hel:=zrT seq h3;have hes:=zxp seq h3 hs;generalize encR seq is=l at*;dsimp only
 rw [zaP,zaP,zbl,zaa (by omega),zaa rfl,zaa rfl,zaa rfl]
 have hol:=zEX B live;have hsm:=h.ok.small
 have hup:∀ d∈B.onL live,B.failed d=false:=fun d hd=>zik (ztH.1 hd).2
 rw [←zID];generalize B.onL live=on at*;rw [zj4]
 let sub:Int→Nat→List Act:=fun d i=>(l[i]?).elim [] fun x=>[Act.w d (2+(i:Int)) x]
 let acts:Nat→List Act:=fun k=>(on[k]?).elim [] fun d=>(List.range' 0 l.length).flatMap (sub d)
 have hacts:zmi on l=(List.range' 0 on.length).flatMap acts:=(zok (fun d=>(List.range' 0 l.length).flatMap (sub d)) on).symm
 rw [hacts,←zme,zc8]
 let st:Nat→Ben→(Nat×List D×List D×Int×Int×PUnit)×List (List D)×List (List D)×PUnit:=fun k B'=>((b,pL (fP l),intL on,(on.length:Int),(k:Int),PUnit.unit),P0 T0 b idx B',P1 T1 idx B',PUnit.unit)
 let fin:Int×Ben→Option Ans:=fun y=>some (Ans.mk (.int .i64 (if y.1=0 then runA (on.map Act.f) y.2 else y).1) [] [P0 T0 b idx (if y.1=0 then runA (on.map Act.f) y.2 else y).2,P1 T1 idx (if y.1=0 then runA (on.map Act.f) y.2 else y).2])
 have hfin:∀ y:Int×Ben,y.1≠0→fin y=some (Ans.mk (.int .i64 y.1) [] [P0 T0 b idx y.2,P1 T1 idx y.2]):=fun y hy=>by dsimp only [fin]; rw [if_neg hy]
 show zb1 _ (st 0 B)=fin (runE _ 0 on.length B)
 have hpl:(pL (fP l)).length=4:=by rw [zer,zhm,hel]
 have ha:∀ k (hk:k < on.length),acts k=(List.range' 0 l.length).flatMap (sub on[k]):=fun k hk=>by dsimp only [acts]; rw [List.getElem?_eq_getElem hk]; rfl
 have hsub:∀ d i (hi:i < l.length),sub d i=[Act.w d (2+(i:Int)) l[i]]:=fun d i hi=>by dsimp only [sub]; rw [List.getElem?_eq_getElem hi]; rfl
 refine zoV (fun k B'=>runA (acts k) B') (fun k B'=>Nx (4*(k:Int)) B B'∧Like B B') st fin on.length (by omega) ⟨.rfl' h.ok (by omega),.refl B⟩ ?_ ?_ ?_
 ·rintro k B' hk' ⟨hx,hL⟩ _
  rw [ha k hk']
  have hsecs:∀ a∈(List.range' 0 l.length).flatMap (sub on[k]),a.sec:=by
   intro a ha;obtain ⟨i,hi,ha⟩:=List.mem_flatMap.1 ha
   have hi':i < l.length:=by have:=List.mem_range'_1.1 hi; omega
   rw [hsub _ _ hi'] at ha;rw [List.mem_singleton.1 ha];exact hes _ (List.getElem_mem hi')
  obtain ⟨n1,n2⟩:=zxl _ hx.ok hsecs;have e4:nW ((List.range' 0 l.length).flatMap (sub on[k]))=4:=zG8 hel on[k];rw [e4] at n1
  exact ⟨(hx.trans n1).mono (by omega),hL.trans n2⟩
 ·rintro again k B' hk' ⟨hx,hL⟩
  dsimp only [st];have hg:on[k]? =some on[k]:=List.getElem?_eq_getElem hk'
  have hk2:(k:Int) < (on.length:Int):=by omega
  have hfd:B.failed on[k]=false:=hup _ (List.getElem_mem hk')
  rw [decide_eq_true hk2,zaJ,zaa (by omega),Int.toNat_natCast,zaa (by rw [zc8]; omega),Nat.zero_add,zak (zmh hg),zaX,zaa (by omega),zaa rfl,zaa rfl,zaa rfl,zaa rfl,ha k hk',←zme]
  generalize on[k]=d at*
  let su:Nat→Ben→(Nat×List D×List D×Int×Int×Int×Int×Int×PUnit)×List (List D)×List (List D)×PUnit:=fun i B2=>((b,pL (fP l),intL on,d,(on.length:Int),(k:Int),((pL (fP l)).length:Int),(i:Int),PUnit.unit),P0 T0 b idx B2,P1 T1 idx B2,PUnit.unit)
  let fin2:Int×Ben→Option Ans:=fun y=>if y.1=0 then again (st (k+1) y.2) else fin y
  show zb1 _ (su 0 B')=fin2 (runE (fun i B2=>runA (sub d i) B2) 0 l.length B')
  refine zoV (fun i B2=>runA (sub d i) B2) (fun i B2=>Nx (4*(k:Int)+(i:Int)) B B2∧Like B B2) su fin2 l.length (by omega) ⟨hx.mono (by omega),hL⟩ ?_ ?_ ?_
  ·rintro i B2 hi ⟨hx2,hL2⟩ _
   rw [hsub _ _ hi,zmB]
   exact ⟨(hx2.trans (zww hx2.ok (.inl (hes _ (List.getElem_mem hi))))).mono (by omega),hL2.trans (zqI ..)⟩
  ·rintro again2 i B2 hi ⟨hx2,hL2⟩
   dsimp only [su];have hg2:l[i]? =some l[i]:=List.getElem?_eq_getElem hi
   have hi2:(i:Int) < ((pL (fP l)).length:Int):=by omega
   have hw2:=hx2.w
   have wl:IntKind.i64.wrap (2+(i:Int))=2+(i:Int):=zat (by omega) (by omega)
   have hwr:=zEw (h.nx hx2) (by omega) d (2+(i:Int)) .fresh l[i]
   have h5:=zzk (B:=B2) (d:=d) (a:=2+(i:Int)) (x:=l[i]) (by rw [hL2.2]; exact hfd)
   rw [hsub _ _ hi,zmB,decide_eq_true hi2,zaJ,zaa (by omega),Int.toNat_natCast,zaa (by omega),Nat.zero_add,zak (zc4 (zBr hg2)),zdg,zap,wl,hwr,zab]
   dsimp only;rw [zaP,zbV,zbV,zaP,zaX,log_bad,zab,zbe]
   show _=if (B2.write d (2+(i:Int)) l[i]).1=0 then _ else _
   by_cases he:(B2.write d (2+(i:Int)) l[i]).1=0
   ·rw [if_pos he,he];show brK false _ _=_
    rw [zan,zap,zdq (by omega),zaa rfl,zaa rfl,zaa rfl,zaa rfl]
    rfl
   ·rw [if_neg he,show ((B2.write d (2+(i:Int)) l[i]).1 != 0 && (B2.write d (2+(i:Int)) l[i]).1 != 5)=true by simp [he,h5],zaJ]
    exact ((if_neg he).trans (hfin (B2.act (.w d (2+(i:Int)) l[i])) he)).symm
  ·rintro again2 B2 ⟨hx2,hL2⟩
   dsimp only [su]
   rw [zfN (by omega),zap,zdq (by omega),zaa rfl,zaa rfl,zaa rfl]
   rfl
 ·rintro again B' ⟨hx,hL⟩
  dsimp only [st];have hxw:=hx.w
  have hfl:=log_flush (h.nx hx) (by omega) .lent (l:=on) (by omega) (fun d hd=>by rw [hL.2]; exact hup d hd)
  rw [zfN (by omega),zaa (by omega),zbW,hfl,zab]
  dsimp only
  rw [zaP,zbV,zaP,zaX,←zAw (on.map Act.f) B' (by intro a ha; obtain ⟨d,_,rfl⟩:=List.mem_map.1 ha; rfl)]
  rfl
theorem ztI {is:List Itm}:∀ {k:Nat},zeS is k=true→∀ j,j < k→∀ x,is[j]? =some x→x.ok=true
 | k+1,h,j,hj,x,hx=>by
  unfold zeS at h;rw [Bool.and_eq_true] at h
  by_cases e:j=k
  ·subst e;rw [hx] at h;have:=h.2;simp only [Bool.and_eq_true] at this;exact this.1
  ·exact ztI h.1 j (by omega) x hx
theorem zEY {seq:Int} {is:List Itm} (h:recE seq is=0) {x:Itm} (hx:x∈is):0≤x.d∧x.d < 8∧36≤x.a∧x.a < 52∧x.x.length=32:=by
 have h1:zeS is is.length=true:=by
  cases e:zeS is is.length
  ·unfold recE at h; rw [if_pos (.inr (.inr (.inr e)))] at h; cases h
  ·rfl
 obtain ⟨j,hj,rfl⟩:=List.mem_iff_getElem.1 hx;have h2:=ztI h1 j hj _ (List.getElem?_eq_getElem hj);unfold Itm.ok at h2;simp only [Bool.and_eq_true,decide_eq_true_eq,beq_iff_eq] at h2;omega
def aOn (B:Ben) (live:List Bool) (is:List Itm):List Int:=(is.filter fun x=>B.up live x.d).map (·.d)
def wI (B:Ben) (live:List Bool) (x:Itm):List Act:=if B.up live x.d then [.w x.d x.a x.x] else []
def zCF (B:Ben) (live:List Bool) (is:List Itm):List Act:=is.flatMap (wI B live)++(aOn B live is).map .f
def Ben.apply (B:Ben) (live:List Bool) (seq:Int) (is:List Itm):Int×Ben:=if recE seq is=0 then runA (zCF B live is) B else (recE seq is,B)
theorem zGG (B:Ben) (live:List Bool) {is:List Itm} {k:Nat} {x:Itm} (h:is[k]? =some x):aOn B live (is.take (k+1))=aOn B live (is.take k)++if B.up live x.d then [x.d] else []:=by
 unfold aOn;rw [List.take_add_one,h,List.filter_append,List.map_append];congr 1
 by_cases hu:B.up live x.d=true
 ·rw [if_pos hu]; show List.map _ (List.filter _ [x])=_; rw [List.filter_cons,if_pos hu]; rfl
 ·rw [if_neg hu]; show List.map _ (List.filter _ [x])=_; rw [List.filter_cons,if_neg hu]; rfl
theorem zEZ (B:Ben) (live:List Bool) (is:List Itm):(aOn B live is).length≤is.length:=by
 unfold aOn; rw [List.length_map]; exact List.length_filter_le ..
theorem zE0 (h:At T0 T1 b idx B) (hw:B.w≤998000) (tg:Tag) {live:List Bool} (hf:B.NoF live) (tg2:Tag) {t:Tag} (ht:zxm t) (seq:Int) {is:List Itm} (hs:∀ i∈is,Sec i.x):
  zdk [.h kB b 0,.sl tg (live.map D.bool),.agg [.int .i64 seq,.sl tg2 (iL t is)]] [P0 T0 b idx B,P1 T1 idx B]=some (Ans.mk (.int .i64 (B.apply live seq is).1) [] [P0 T0 b idx (B.apply live seq is).2,P1 T1 idx (B.apply live seq is).2]):=by
 rw [zui,zfM,zqL ht];unfold zn8 Ben.apply;rw [zrc .lent zjP seq,zab,zaX]
 by_cases he:recE seq is=0
 rotate_left
 ·rw [zoN he,if_neg he]
 rw [zha he,if_pos he];obtain ⟨h3,_,_⟩:=zmC he;unfold zCF;rw [zj4]
 let acts:Nat→List Act:=fun k=>(is[k]?).elim [] (wI B live)
 have hacts:is.flatMap (wI B live)=(List.range' 0 is.length).flatMap acts:=(zok (wI B live) is).symm;rw [hacts,←zme,zvv]
 let st:Nat→Ben→(Nat×List D×List D×List D×Int×Int×PUnit)×List (List D)×List (List D)×PUnit:=fun k B'=>((b,live.map D.bool,intL (aOn B live (is.take k)),iL .lent is,(is.length:Int),(k:Int),PUnit.unit),P0 T0 b idx B',P1 T1 idx B',PUnit.unit)
 let fin:Int×Ben→Option Ans:=fun y=>some (Ans.mk (.int .i64 (if y.1=0 then runA ((aOn B live is).map Act.f) y.2 else y).1) [] [P0 T0 b idx (if y.1=0 then runA ((aOn B live is).map Act.f) y.2 else y).2,P1 T1 idx (if y.1=0 then runA ((aOn B live is).map Act.f) y.2 else y).2])
 have hfin:∀ y:Int×Ben,y.1≠0→fin y=some (Ans.mk (.int .i64 y.1) [] [P0 T0 b idx y.2,P1 T1 idx y.2]):=fun y hy=>by dsimp only [fin]; rw [if_neg hy]
 show zb1 _ (st 0 B)=fin (runE _ 0 is.length B)
 have ha:∀ k (hk:k < is.length),acts k=wI B live is[k]:=fun k hk=>by dsimp only [acts]; rw [List.getElem?_eq_getElem hk]; rfl
 refine zoV (fun k B'=>runA (acts k) B') (fun k B'=>Nx (k:Int) B B'∧Like B B') st fin is.length (by omega) ⟨.rfl' h.ok (by omega),.refl B⟩ ?_ ?_ ?_
 ·rintro k B' hk' ⟨hx,hL⟩ _
  rw [ha k hk'];have hsx:=hs _ (List.getElem_mem hk');unfold wI;split
  ·rw [zmB]
   exact ⟨(hx.trans (zww hx.ok (.inl hsx))).mono (by omega),hL.trans (zqI ..)⟩
  ·exact ⟨hx.mono (by omega),hL⟩
 ·rintro again k B' hk' ⟨hx,hL⟩
  dsimp only [st];have hg:is[k]? =some is[k]:=List.getElem?_eq_getElem hk'
  have hk2:(k:Int) < (is.length:Int):=by omega
  have hxw:=hx.w;obtain ⟨d0,d8,a0,a1,hxl⟩:=zEY he (List.getElem_mem hk');have hbl:=zAr (h.nx hx);rw [hx.n] at hbl;have hu:=NoF.up hf d0;have hal:=zEZ B live (is.take k)
  have htl:(is.take k).length≤k:=by rw [List.length_take]; omega
  rw [zGG B live hg,ha k hk',decide_eq_true hk2,zaJ,zaa (by omega),Int.toNat_natCast,zak (zBH hg),zeJ,zb7,zb7,zgt,zch]
  dsimp only;rw [hbl,zab];dsimp only;rw [zaP,zaP,zaX]
  by_cases hn:B.n≤is[k].d
  ·have e:wI B live is[k]=[]:=if_neg (by rw [hu]; simp; omega)
   rw [zlq hn,zap,zdq (by omega),zaa rfl,e,if_neg (show ¬ B.up live is[k].d=true by rw [hu]; simp; omega),List.append_nil]
   rfl
  rw [zfN hn,log_is .lent live d0,zab,zbe]
  rw [show decide (is[k].d < B.n)=true from decide_eq_true (by omega),Bool.true_and] at hu
  rw [←hu]
  by_cases hup:B.up live is[k].d=true
  rotate_left
  ·have e:wI B live is[k]=[]:=if_neg hup
   have hup':B.up live is[k].d=false:=by simpa using hup
   rw [hup',Bool.not_false,zaJ,zap,zdq (by omega),zaa rfl,e,if_neg (show ¬ false=true by simp),List.append_nil]
   rfl
  have e:wI B live is[k]=[.w is[k].d is[k].a is[k].x]:=if_pos hup
  have hwr:=zEw (h.nx hx) (by omega) is[k].d is[k].a .lent is[k].x
  have h5:=zzk (B:=B') (d:=is[k].d) (a:=is[k].a) (x:=is[k].x) (by rw [hL.2]; exact zik hup)
  rw [hup,Bool.not_true,zan,if_pos (show true=true from rfl),e,zmB,hwr,zab]
  dsimp only;rw [zaP,zbV,zbV,zaP,zaX,log_bad,zab,zbe]
  show _=if (B'.write is[k].d is[k].a is[k].x).1=0 then _ else _
  by_cases hz:(B'.write is[k].d is[k].a is[k].x).1=0
  ·have u:intL (aOn B live (is.take k))++[D.int .i64 is[k].d]=intL (aOn B live (is.take k)++[is[k].d]):=by simp [intL]
   rw [if_pos hz,hz];show brK false _ _=_
   rw [zan,zaa (by rw [zc8]; omega),zaa rfl,zap,zdq (by omega),u,zaa (by rw [zc8,zc8]; simp)]
   rfl
  ·rw [if_neg hz,show ((B'.write is[k].d is[k].a is[k].x).1 != 0 && (B'.write is[k].d is[k].a is[k].x).1 != 5)=true by simp [hz,h5],zaJ]
   exact (hfin (B'.act (.w is[k].d is[k].a is[k].x)) hz).symm
 ·rintro again B' ⟨hx,hL⟩
  dsimp only [st];rw [List.take_length];have hxw:=hx.w;have hal:=zEZ B live is
  have hfl:=log_flush (h.nx hx) (by omega) .lent (l:=aOn B live is) (by omega) (fun d hd=>by
   unfold aOn at hd;obtain ⟨x,hx',rfl⟩:=List.mem_map.1 hd;rw [hL.2]; exact zik (List.mem_filter.1 hx').2)
  rw [zfN (by omega),zaa (by omega),zbW,hfl,zab]
  dsimp only
  rw [zaP,zbV,zaP,zaX,←zAw ((aOn B live is).map Act.f) B' (by intro a ha; obtain ⟨d,_,rfl⟩:=List.mem_map.1 ha; rfl)]
  rfl
end
end Wf

namespace Wf
open Go Go.RowKit Go.Proofs
set_option linter.unusedSimpArgs false
set_option linter.unusedVariables false
set_option maxHeartbeats 4000000
theorem zE1 (tg:Tag) {l:List Int} {n:Int} {i:Nat} (hn:l.length < 100000) (hi:l[i]? =some n) (hb:∀ j,j < i→l[j]? ≠some n):zaI [.sl tg (intL l),.int .i64 n]=some (.int .i64 (i:Int)):=by
 rw [zfm,zjl];unfold zdB;have hil:=(List.getElem?_eq_some_iff.1 hi).1;rw [zc8]
 refine zfG (fun a=>l.length - a.1.2.2.2.1.toNat) (fun _=>some (D.int .i64 (i:Int))) (fun a=>∃ k:Nat,k≤i∧a=((intL l,n,(l.length:Int),(k:Int),PUnit.unit),PUnit.unit)) ?_ ⟨0,by omega,rfl⟩ (by simp; omega)
 rintro again _ ⟨k,hk,rfl⟩ ih
 dsimp only
 have hg:l[k]? =some l[k]:=List.getElem?_eq_getElem (by omega)
 rw [zlq (by omega),zaa (by omega),Int.toNat_natCast,zak (zmh hg),zaX]
 by_cases e:k=i
 ·subst e;rw [hg] at hi;rw [zBb (Option.some.inj hi).symm]
 ·rw [zDO (fun q=>hb k (by omega) (by rw [hg,q])),zap,zdq (by omega)]
  exact ih _ ⟨k+1,by omega,rfl⟩ (by dsimp only; omega)
section
variable {T0 T1:Tb} {b:Nat} {idx:List Nat} {B:Ben}
theorem update_up (h:At T0 T1 b idx B) (tg:Tag) (live:List Bool) (d:Int):zb9 [.h kB b 0,.sl tg (live.map D.bool),.int .i64 d] [P0 T0 b idx B,P1 T1 idx B]=some (Ans.mk (.bool (decide (0≤d) && B.up live d)) [] []):=by
 rw [zub,zfM];unfold zn1
 by_cases h0:0≤d
 rotate_left
 ·rw [zfN (by omega),decide_eq_false h0]; rfl
 rw [zlq (by omega),zAr h,zab,decide_eq_true h0,Bool.true_and]
 dsimp only;rw [zaP,zaP,zaX,List.length_map];unfold Ben.up
 by_cases h1:d < B.n
 rotate_left
 ·rw [zfN h1,decide_eq_false h1]; rfl
 rw [zlq h1,decide_eq_true h1,Bool.true_and]
 by_cases h2:d < live.length
 rotate_left
 ·rw [zfN h2,List.getElem?_eq_none (by omega)]; rfl
 have e:live[d.toNat]? =some (live[d.toNat]'(by omega)):=List.getElem?_eq_getElem (by omega)
 have e':(live.map D.bool)[d.toNat]? =some (.bool (live[d.toNat]'(by omega))):=by simp [e]
 rw [zlq h2,zaa h0,zak e',zbe,e]
 cases live[d.toNat]'(by omega)
 ·rfl
 ·rw [zaJ,zBp h d,zab];rfl
def zzl (B:Ben) (live:List Bool) (g:Geo) (n:Int) (data:List (List Int)):List Itm:=
 ([(ofP g n).1,(parP g (ofP g n).2.1).1,(parP g (ofP g n).2.1).2].filter fun d=>decide (0≤d) && B.up live d).map fun d=>⟨d,36+(ofP g n).2.1,atR g (ofP g n).2.1 data d⟩
def Ben.uPlan (B:Ben) (live:List Bool) (g:Geo) (n:Int) (x:List Int) (seq:Int):(Int×List Itm)×Int:=
 if x.length≠32 then ((0,[]),1)
 else if (ofP g n).2.2=false then ((0,[]),4)
 else if (B.sRead live g (ofP g n).2.1).2≠0 then ((0,[]),(B.sRead live g (ofP g n).2.1).2)
 else ((seq,zzl B live g n ((B.sRead live g (ofP g n).2.1).1.set (zcY g n).toNat x)),0)
def tagI (is:List Itm):Tag:=if is=[] then .nil else .fresh
theorem zxr (s:Int) (is:List Itm):D.free (.agg [.int .i64 s,.sl .fresh (iL .fresh is)])=true:=by
 have:D.freeL (iL .fresh is)=true:=by
  induction is with
  | nil=>rfl
  | cons i is ih=>exact (Bool.and_eq_true _ _).mpr ⟨by simp [Itm.D,D.free,D.freeL,zrN],ih⟩
 simp [D.free,D.freeL,this]
theorem ztJ (h:At T0 T1 b idx B) (hw:B.w≤999000) (tg:Tag) (live:List Bool) (g:Geo) (n:Int) (tgx:Tag) (x:List Int) (seq:Int):
  zbq [.h kB b 0,.sl tg (live.map D.bool),.agg [.int .i64 g.l,.int .i64 g.d,.int .i64 g.c],.int .i64 n,.sl tgx (uL x),.int .i64 seq] [P0 T0 b idx B,P1 T1 idx B]=
   some (Ans.mk (.tup [.agg [.int .i64 (B.uPlan live g n x seq).1.1,.sl (tagI (B.uPlan live g n x seq).1.2) (iL .fresh (B.uPlan live g n x seq).1.2)],.int .i64 (B.uPlan live g n x seq).2]) [] []):=by
 rw [zrx,zfM,zcH];unfold zkt Ben.uPlan;rw [zcI]
 by_cases hx:x.length=32
 rotate_left
 ·rw [zoN (by omega),if_pos hx]; rfl
 rw [zha (by omega),if_neg (by omega),zEF,zab,zdm,zci,zci,zci,zch]
 dsimp only;rw [zaX,zaX,zbe];cases ho:(ofP g n).2.2
 ·rw [Bool.not_false,zaJ,if_pos rfl]; rfl
 rw [Bool.not_true,zan,if_neg (by simp)]
 have hin:0≤n∧n < g.cap:=by
  unfold ofP at ho;split at ho
  ·assumption
  ·cases ho
 have hof:ofP g n=(zc1 g (rowG g n) (zcY g n),rowG g n,true):=if_pos hin
 rw [ztB h (by omega) .lent live g (ofP g n).2.1,zab]
 dsimp only;rw [zaP,zaP,zdm,zc5];dsimp only;rw [zbl,zaX]
 by_cases he:(B.sRead live g (ofP g n).2.1).2=0
 rotate_left
 ·rw [zoN he,if_pos he]; rfl
 rw [zha he,if_neg (by simp [he])]
 obtain ⟨hR,hr⟩:=zzh h.ok he;generalize (B.sRead live g (ofP g n).2.1).1=data at*;obtain ⟨hk,r0,r1⟩:=zbz.1 hr;have hdd:=ok_d hk;have hwd:=zca hk;obtain ⟨hpf,c0,c1,c2⟩:=zii hin.1 hin.2;have hd0:=zhR hpf c0 c1;rw [hof];rw [hof] at hr r0 r1 he;dsimp only at hr r0 r1 he ⊢;have hpi:=zlz hpf
 have hnum:zEa g (rowG g n)=intL ((List.range g.width.toNat).map fun (j:Nat)=>numP g (rowG g n) (j:Int)):=by
  unfold zEa; rw [if_pos hpf]; unfold numD intL; rw [List.map_map]; rfl
 have hidx:=zE1 .lent (l:=(List.range g.width.toNat).map fun (j:Nat)=>numP g (rowG g n) (j:Int)) (n:=n) (i:=(zcY g n).toNat) (by simp; omega) (by
  rw [List.getElem?_map,List.getElem?_range (by omega)]
  show some (numP g (rowG g n) (((zcY g n).toNat:Nat):Int))=_
  rw [show (((zcY g n).toNat:Nat):Int)=zcY g n by omega,c2]) (by
  intro j hj q
  rw [List.getElem?_map,List.getElem?_range (by omega)] at q
  have:=zIl hpf (j:=(j:Int)) (k:=zcY g n) (by omega) (by omega) c0 c1 (by rw [c2]; exact Option.some.inj q)
  omega)
 have hlen:=hR.len
 have hcl:(zcY g n).toNat < data.length:=by omega
 have hgd:(pL (fP data))[(zcY g n).toNat]? =some (.sl .fresh (uL (data.getD (zcY g n).toNat []))):=ztw hcl
 have hi1:(((zcY g n).toNat:Nat):Int).toNat=(zcY g n).toNat:=by omega
 have hps:(pL (fP data)).set (zcY g n).toNat (.sl .lent (uL x))=pL ((fP data).set (zcY g n).toNat (Tag.lent,x)):=zpH ..
 have hsnd:((fP data).set (zcY g n).toNat (Tag.lent,x)).map (·.2)=data.set (zcY g n).toNat x:=by rw [List.map_set,zpJ]
 rw [zAu,zab,zbl,hnum,zaa (by omega),zbW,hidx,zab,zaX,zaa (by omega),hi1,zaa (by rw [zer,zhm]; omega),Nat.zero_add,zak hgd,zaa (show D.isAgg (.sl .fresh _)=false from rfl),hps,
  zaa (by rw [zer,zer,List.length_set]; omega),show cut 0 (pL (fP data)).length (pL ((fP data).set (zcY g n).toNat (Tag.lent,x)))=pL ((fP data).set (zcY g n).toNat (Tag.lent,x)) from zmc (by rw [zer,zer,List.length_set]),
  zBA g (rowG g n) .lent (by rw [List.length_set,zhm]; omega),hsnd,zab]
 have hfill:zwB g (rowG g n) (data.set (zcY g n).toNat x)=some (zcC g (rowG g n) (data.set (zcY g n).toNat x)):=by
  unfold zwB
  refine if_pos ⟨hpf,by rw [List.length_set]; exact hlen,List.all_eq_true.2 fun y hy=>?_⟩
  rcases List.mem_or_eq_of_mem_set hy with hy | rfl
  ·exact decide_eq_true (hR.sec y hy).len
  ·exact decide_eq_true hx
 rw [hfill];unfold solD;dsimp only;rw [zdm,zc5];dsimp only;rw [zbl,zbe,zjN,zab,zdm,zc5];dsimp only;rw [zaX,zaX];generalize data.set (zcY g n).toNat x=data' at*
 have hat:∀ d:Int,0≤d→d < g.d→∀ f:D→Option Ans,getK (pL (fP (zcC g (rowG g n) data'))) (0+d.toNat) f=f (.sl .fresh (uL (atR g (rowG g n) data' d))):=fun d d0 d1 f=>by
  rw [Nat.zero_add,zak (ztw (by rw [zhA]; omega)),zoi (by omega),show ((d.toNat:Nat):Int)=d by omega]
 have hll:(pL (fP (zcC g (rowG g n) data'))).length=g.d.toNat:=by rw [zer,zhm,zhA]
 have wr:IntKind.i64.wrap (36+rowG g n)=36+rowG g n:=zat (by omega) (by omega)
 have key:zzl B live g n data'=([zc1 g (rowG g n) (zcY g n),(parP g (rowG g n)).1,(parP g (rowG g n)).2].filter fun d=>decide (0≤d) && B.up live d).map fun d=>⟨d,36+rowG g n,atR g (rowG g n) data' d⟩:=by
  unfold zzl; rw [hof]
 rw [key];have hup:=update_up h .lent live;generalize zc1 g (rowG g n) (zcY g n)=d1 at*;generalize (parP g (rowG g n)).1=d2 at*;generalize (parP g (rowG g n)).2=d3 at*
 have q:∀ d,(decide (0≤d) && B.up live d)=true→0≤d:=fun d hd=>by
  rw [Bool.and_eq_true,decide_eq_true_eq] at hd; exact hd.1
 have f1:∀ (s a b:Int) (x:List Int),D.free (.agg [.int .i64 s,.sl .fresh [.agg [.int .i64 a,.int .i64 b,.sl .fresh (uL x)]]])=true:=fun s a b x=>zxr s [⟨a,b,x⟩]
 have f2:∀ (s a b c d:Int) (x y:List Int),D.free (.agg [.int .i64 s,.sl .fresh [.agg [.int .i64 a,.int .i64 b,.sl .fresh (uL x)],.agg [.int .i64 c,.int .i64 d,.sl .fresh (uL y)]]])=true:=fun s a b c d x y=>zxr s [⟨a,b,x⟩,⟨c,d,y⟩]
 have f3:∀ (s a b c d e f:Int) (x y z:List Int),D.free (.agg [.int .i64 s,.sl .fresh [.agg [.int .i64 a,.int .i64 b,.sl .fresh (uL x)],.agg [.int .i64 c,.int .i64 d,.sl .fresh (uL y)],.agg [.int .i64 e,.int .i64 f,.sl .fresh (uL z)]]])=true:=fun s a b c d e f x y z=>zxr s [⟨a,b,x⟩,⟨c,d,y⟩,⟨e,f,z⟩]
 rw [wr,hup,zab];dsimp only;rw [zaP,zaP,zbe];cases e1:(decide (0≤d1) && B.up live d1)
 ·rw [zan,hup,zab];dsimp only;rw [zaP,zaP,zbe];cases e2:(decide (0≤d2) && B.up live d2)
  ·rw [zan,hup,zab];dsimp only;rw [zaP,zaP,zbe];cases e3:(decide (0≤d3) && B.up live d3)
   ·rw [zan];simp only [List.filter_cons,e1,e2,e3,List.filter_nil]; rfl
   ·have:=q _ e3
    rw [zaJ,zap,zaa this,zaa (by omega),hat d3 this (by omega),zdg,zaa (f1 ..)]
    simp only [List.filter_cons,e1,e2,e3,List.filter_nil]; rfl
  ·have h2:=q _ e2
   rw [zaJ,zap,zaa h2,zaa (by omega),hat d2 h2 (by omega),zdg,hup,zab]
   dsimp only;rw [zaP,zaP,zbe];cases e3:(decide (0≤d3) && B.up live d3)
   ·rw [zan,zaa (f1 ..)];simp only [List.filter_cons,e1,e2,e3,List.filter_nil]; rfl
   ·have:=q _ e3
    rw [zaJ,zap,zaa this,zaa (by omega),hat d3 this (by omega),zdg,zaa (f2 ..)]
    simp only [List.filter_cons,e1,e2,e3,List.filter_nil]; rfl
 ·have h1:=q _ e1
  rw [zaJ,zap,zaa h1,zaa (by omega),hat d1 h1 (by omega),zdg,hup,zab]
  dsimp only;rw [zaP,zaP,zbe];cases e2:(decide (0≤d2) && B.up live d2)
  ·rw [zan,hup,zab];dsimp only;rw [zaP,zaP,zbe];cases e3:(decide (0≤d3) && B.up live d3)
   ·rw [zan,zaa (f1 ..)];simp only [List.filter_cons,e1,e2,e3,List.filter_nil]; rfl
   ·have:=q _ e3
    rw [zaJ,zap,zaa this,zaa (by omega),hat d3 this (by omega),zdg,zaa (f2 ..)]
    simp only [List.filter_cons,e1,e2,e3,List.filter_nil]; rfl
  ·have h2:=q _ e2
   rw [zaJ,zap,zaa h2,zaa (by omega),hat d2 h2 (by omega),zdg,hup,zab]
   dsimp only;rw [zaP,zaP,zbe];cases e3:(decide (0≤d3) && B.up live d3)
   ·rw [zan,zaa (f2 ..)];simp only [List.filter_cons,e1,e2,e3,List.filter_nil]; rfl
   ·have:=q _ e3
    rw [zaJ,zap,zaa this,zaa (by omega),hat d3 this (by omega),zdg,zaa (f3 ..)]
    simp only [List.filter_cons,e1,e2,e3,List.filter_nil]; rfl
theorem zBI {l:List (List Int)} (hl:l.length=4):∀ on:List Int,nW (zmi on l)=4*on.length
 | []=>rfl
 | d::on=>by
  unfold zmi at*
  rw [List.flatMap_cons,zoZ,zG8 hl d,List.length_cons,show nW (on.flatMap _)=_ from zBI hl on]; omega
theorem ztK {on:List Int} {l:List (List Int)} {a:Act} (h:a∈zmi on l):∃ d∈on,∃ (i:Nat) (hi:i < l.length),a=.w d (2+(i:Int)) l[i]:=by
 unfold zmi at h;obtain ⟨d,hd,h⟩:=List.mem_flatMap.1 h;obtain ⟨i,hi,h⟩:=List.mem_flatMap.1 h
 have hi':i < l.length:=by have:=List.mem_range'_1.1 hi; omega
 rw [List.getElem?_eq_getElem hi'] at h;exact ⟨d,hd,i,hi',List.mem_singleton.1 h⟩
theorem zG9 {B:Ben} (hB:B.Ok) (live:List Bool) (seq:Int) {is:List Itm} (hs:∀ i∈is,Sec i.x):Nx 32 B (B.put live seq is).2∧Like B (B.put live seq is).2:=by
 unfold Ben.put
 by_cases he:recE seq is=0
 rotate_left
 ·rw [if_neg he]; exact ⟨.rfl' hB (by omega),.refl B⟩
 rw [if_pos he];obtain ⟨h3,_,_⟩:=zmC he;have hel:=zrT seq h3;have hes:=zxp seq h3 hs
 obtain ⟨n1,n2⟩:=zxl (zmi (B.onL live) (encR seq is)++B.fActs live) hB (by
  intro a ha;rcases List.mem_append.1 ha with ha | ha
  ·obtain ⟨d,_,i,hi,rfl⟩:=ztK ha;exact hes _ (List.getElem_mem hi)
  ·have:=zIt B live a ha
   cases a with
   | w d a x=>cases this
   | f d=>trivial)
 rw [zoZ,zBI hel,zGq] at n1;have:=zEX B live;have:=hB.small
 exact ⟨n1.mono (by omega),n2⟩
theorem zGH {B:Ben} (hB:B.Ok) (live:List Bool) (seq:Int) {is:List Itm} (hs:∀ i∈is,Sec i.x):Nx 3 B (B.apply live seq is).2∧Like B (B.apply live seq is).2:=by
 unfold Ben.apply
 by_cases he:recE seq is=0
 rotate_left
 ·rw [if_neg he]; exact ⟨.rfl' hB (by omega),.refl B⟩
 rw [if_pos he];obtain ⟨h3,_,_⟩:=zmC he
 obtain ⟨n1,n2⟩:=zxl (zCF B live is) hB (by
  intro a ha;rcases List.mem_append.1 ha with ha | ha
  ·obtain ⟨x,hx,ha⟩:=List.mem_flatMap.1 ha;unfold wI at ha;split at ha
   ·rw [List.mem_singleton.1 ha]; exact hs x hx
   ·cases ha
  ·obtain ⟨d,_,rfl⟩:=List.mem_map.1 ha; trivial)
 have hw:∀ l:List Itm,nW (l.flatMap (wI B live))≤l.length:=by
  intro l
  induction l with
  | nil=>exact Nat.le_refl _
  | cons x l ih=>
   rw [List.flatMap_cons,zoZ,List.length_cons]
   have:nW (wI B live x)≤1:=by
    unfold wI; split
    ·exact Nat.le_refl 1
    ·exact Nat.zero_le _
   omega
 have hf:∀ l:List Int,nW (l.map Act.f)=0:=by
  intro l
  induction l with
  | nil=>rfl
  | cons x l ih=>rw [List.map_cons,zz4,ih]; rfl
 unfold zCF at*;rw [zoZ,hf] at n1;have:=hw is
 exact ⟨n1.mono (by omega),n2⟩
theorem NoF.like {B B':Ben} {live:List Bool} (h:B.NoF live) (hL:Like B B'):B'.NoF live:=fun d d0 d1 hl=>by
 rw [hL.2]; exact h d d0 (by rw [←hL.1]; exact d1) hl
theorem zE2 {B:Ben} (hB:B.Ok) (live:List Bool) (g:Geo) (n:Int) {x:List Int} (hx:x.length=32→Sec x) (seq:Int):∀ i∈(B.uPlan live g n x seq).1.2,Sec i.x:=by
 unfold Ben.uPlan
 by_cases h1:x.length=32
 rotate_left
 ·rw [if_pos h1]; intro i hi; cases hi
 rw [if_neg (by simp [h1])]
 cases ho:(ofP g n).2.2
 ·rw [if_pos rfl]; intro i hi; cases hi
 rw [if_neg (by simp)]
 have hin:0≤n∧n < g.cap:=by
  unfold ofP at ho;split at ho
  ·assumption
  ·cases ho
 have hof:ofP g n=(zc1 g (rowG g n) (zcY g n),rowG g n,true):=if_pos hin
 by_cases he:(B.sRead live g (ofP g n).2.1).2=0
 rotate_left
 ·rw [if_pos he]; intro i hi; cases hi
 rw [if_neg (by simp [he])]
 obtain ⟨hR,hr⟩:=zzh hB he;obtain ⟨hpf,c0,c1,c2⟩:=zii hin.1 hin.2
 have hR':Row g ((B.sRead live g (ofP g n).2.1).1.set (zcY g n).toNat x):=⟨by rw [List.length_set]; exact hR.len,fun y hy=>by
  rcases List.mem_or_eq_of_mem_set hy with hy | rfl
  ·exact hR.sec y hy
  ·exact hx h1⟩
 intro i hi;unfold zzl at hi;obtain ⟨d,hd,rfl⟩:=List.mem_map.1 hi;obtain ⟨hd,hu⟩:=List.mem_filter.1 hd;simp only [Bool.and_eq_true,decide_eq_true_eq] at hu;refine zyE hr hR' hu.1 ?_;have hpi:=zlz hr;have hdi:=zhR hpf c0 c1;simp only [List.mem_cons,List.not_mem_nil,or_false] at hd;rcases hd with rfl | rfl | rfl
 ·rw [hof]; exact hdi.2
 ·exact hpi.2.1
 ·rcases hpi.2.2 with q | q<;>omega
def Ben.uDo (B:Ben) (live:List Bool) (g:Geo) (n:Int) (x:List Int) (seq:Int):Int×Ben:=
 if (B.uPlan live g n x seq).2≠0 then ((B.uPlan live g n x seq).2,B)
 else if (B.put live (B.uPlan live g n x seq).1.1 (B.uPlan live g n x seq).1.2).1≠0 then B.put live (B.uPlan live g n x seq).1.1 (B.uPlan live g n x seq).1.2
 else (B.put live (B.uPlan live g n x seq).1.1 (B.uPlan live g n x seq).1.2).2.apply live (B.uPlan live g n x seq).1.1 (B.uPlan live g n x seq).1.2
theorem zE3 (h:At T0 T1 b idx B) (hw:B.w≤990000) (tg:Tag) {live:List Bool} (hf:B.NoF live) (g:Geo) (n:Int) (tgx:Tag) {x:List Int} (hx:x.length=32→Sec x) (seq:Int):
  zcU [.h kB b 0,.sl tg (live.map D.bool),.agg [.int .i64 g.l,.int .i64 g.d,.int .i64 g.c],.int .i64 n,.sl tgx (uL x),.int .i64 seq] [P0 T0 b idx B,P1 T1 idx B]=
   some (Ans.mk (.int .i64 (B.uDo live g n x seq).1) [] [P0 T0 b idx (B.uDo live g n x seq).2,P1 T1 idx (B.uDo live g n x seq).2]):=by
 rw [zuk,zfM,zcH];unfold zn9 Ben.uDo
 rw [ztJ h (by omega) .lent live g n .lent x seq,zab]
 dsimp only;rw [zaP,zaP,zdm,zc5];dsimp only;rw [zeJ,zb7,zgt,zch];dsimp only;rw [zaX]
 by_cases he:(B.uPlan live g n x seq).2=0
 rotate_left
 ·rw [zoN he,if_pos he]
 have hsx:=zE2 h.ok live g n hx seq
 rw [zha he,if_neg (by simp [he])]
 generalize (B.uPlan live g n x seq).1.1=sq at*;generalize (B.uPlan live g n x seq).1.2=is at*;obtain ⟨n1,l1⟩:=zG9 h.ok live sq hsx;have hw1:=n1.w
 rw [zIE h (by omega) .lent hf (tagI is) ztD sq hsx,zab]
 dsimp only;rw [zaP,zbV,zbV,zaP,zaX]
 by_cases hp:(B.put live sq is).1=0
 rotate_left
 ·rw [zoN hp,if_pos hp]
 rw [zha hp,if_neg (by simp [hp]),zE0 (h.nx n1) (by omega) .lent (NoF.like hf l1) (tagI is) ztD sq hsx,zab]
 dsimp only;rw [zaP,zbV,zbV,zaP,zaX]
end
end Wf

namespace Wf
open Go Go.RowKit Go.Proofs
set_option linter.unusedSimpArgs false
set_option linter.unusedVariables false
set_option maxHeartbeats 4000000
theorem zHa (l:List Int) (c:Int→Int→List Int):curs c (l.map Act.f)=c:=by
 induction l with
 | nil=>rfl
 | cons d l ih=>exact ih
theorem zCG (B:Ben) (live:List Bool) (c:Int→Int→List Int):curs c (B.fActs live)=c:=by rw [←zID]; exact zHa _ c
theorem zGI {l:List (List Int)} (hl:l.length=4) (d:Int) (c:Int→Int→List Int) (e b:Int):
  curs c ((List.range' 0 l.length).flatMap fun (i:Nat)=>(l[i]?).elim [] fun x=>[Act.w d (2+(i:Int)) x]) e b=if e=d∧2≤b∧b < 6 then l.getD (b - 2).toNat [] else c e b:=by
 match l,hl with
 | [x0,x1,x2,x3],_=>
  show (if e=d∧b=2+3 then x3 else if e=d∧b=2+2 then x2 else if e=d∧b=2+1 then x1 else if e=d∧b=2+0 then x0 else c e b)=_
  by_cases he:e=d
  ·by_cases h5:b=5
   ·subst h5; simp [he]
   by_cases h4:b=4
   ·subst h4; simp [he]
   by_cases h3:b=3
   ·subst h3; simp [he]
   by_cases h2:b=2
   ·subst h2; simp [he]
   rw [if_neg (by omega),if_neg (by omega),if_neg (by omega),if_neg (by omega),if_neg (by omega)]
  ·simp [he]
theorem zvA {l:List (List Int)} (hl:l.length=4):∀ (on:List Int) (c:Int→Int→List Int) (e b:Int),curs c (zmi on l) e b=if e∈on∧2≤b∧b < 6 then l.getD (b - 2).toNat [] else c e b
 | [],c,e,b=>by simp [zmi,curs]
 | d::on,c,e,b=>by
  have:zmi (d::on) l=((List.range' 0 l.length).flatMap fun (i:Nat)=>(l[i]?).elim [] fun x=>[Act.w d (2+(i:Int)) x])++zmi on l:=by unfold zmi; rw [List.flatMap_cons]
  rw [this,znB,zvA hl on,zGI hl]
  by_cases h1:e∈on
  ·by_cases h2:2≤b∧b < 6
   ·rw [if_pos ⟨h1,h2⟩,if_pos ⟨List.mem_cons_of_mem _ h1,h2⟩]
   ·rw [if_neg (fun q=>h2 q.2),if_neg (fun q=>h2 q.2),if_neg (fun q=>h2 q.2)]
  ·rw [if_neg (fun q=>h1 q.1)]
   by_cases h2:e=d
   ·subst h2; simp
   ·rw [if_neg (fun q=>h2 q.1),if_neg (fun q=>by rcases List.mem_cons.1 q.1 with r | r; exact h2 r; exact h1 r)]
theorem zBJ (A:Int) (f:Int→List Int):∀ (ds:List Int) (c:Int→Int→List Int) (e b:Int),curs c (ds.map fun d=>Act.w d A (f d)) e b=if b=A∧e∈ds then f e else c e b
 | [],c,e,b=>by simp [curs]
 | d::ds,c,e,b=>by
  show curs (Act.cur c (.w d A (f d))) (ds.map _) e b=_;rw [zBJ A f ds]
  by_cases h1:b=A∧e∈ds
  ·rw [if_pos h1,if_pos ⟨h1.1,List.mem_cons_of_mem _ h1.2⟩]
  ·rw [if_neg h1]
   show (if e=d∧b=A then f d else c e b)=_
   by_cases h2:e=d∧b=A
   ·rw [if_pos h2,if_pos ⟨h2.2,by rw [h2.1]; exact List.mem_cons_self ..⟩,h2.1]
   ·rw [if_neg h2,if_neg (fun q=>by rcases List.mem_cons.1 q.2 with r | r; exact h2 ⟨r,q.1⟩; exact h1 ⟨q.1,r⟩)]
theorem zvB {is:List Itm} (h:∀ x∈is,x.ok=true) (hp:is.Pairwise fun a b=>a.d≠b.d):∀ k,k≤is.length→zeS is k=true
 | 0,_=>rfl
 | k+1,hk=>by
  unfold zeS
  rw [zvB h hp k (by omega),List.getElem?_eq_getElem (by omega)]
  have h1:=h _ (List.getElem_mem (show k < is.length by omega))
  have h2:((is.take k).any fun y=>y.same is[k])=false:=by
   rw [List.any_eq_false];intro y hy;obtain ⟨j,hj,rfl⟩:=List.mem_iff_getElem.1 hy
   have hj':j < k:=by rw [List.length_take] at hj; omega
   have:=List.pairwise_iff_getElem.1 hp j k (by omega) (by omega) hj'
   rw [List.getElem_take];unfold Itm.same;simp only [Bool.and_eq_true,beq_iff_eq,not_and];intro q; exact absurd q this
  simp only [h1,h2,Bool.not_false,Bool.and_self,Bool.true_and]
theorem zIF (A:Int) (f:Int→List Int) {ds:List Int} (h:ds.Nodup):(ds.map fun d=>(⟨d,A,f d⟩:Itm)).Pairwise fun a b=>a.d≠b.d:=by
 rw [List.pairwise_map];exact h
section
variable {B:Ben} {live:List Bool}
theorem zGJ {l:List (List Int)} (hl:l.length=4) (hs:∀ x∈l,Sec x):∀ a∈zmi (B.onL live) l,a.Ok B:=by
 intro a ha;obtain ⟨d,hd,i,hi,rfl⟩:=ztK ha;obtain ⟨d0,hu⟩:=ztH.1 hd
 exact ⟨zeL.2 ⟨d0,zzd hu⟩,zik hu,by omega,by omega,hs _ (List.getElem_mem hi)⟩
def Act.disk:Act→Int
 | .w d _ _=>d
 | .f d=>d
theorem zxs {e:Int} (e0:0≤e):∀ (l:List Act) {B:Ben},B.Ok→(∀ a∈l,a.Ok B)→(∀ a∈l,a.disk≠e)→(does B l).nP e=B.nP e
 | [],B,_,_,_=>rfl
 | a::l,B,hB,hA,hd=>by
  have ha:=hA a (List.mem_cons_self ..);show (does (B.does1 a) l).nP e=_
  rw [zxs e0 l (zj5 hB ha).ok (fun c hc=>zoY hB ha (hA c (List.mem_cons_of_mem _ hc))) fun c hc=>hd c (List.mem_cons_of_mem _ hc),zBD ha e0]
  have:=hd a (List.mem_cons_self ..)
  cases a with
  | w d a x=>exact if_neg fun q=>this q.symm
  | f d=>exact if_neg fun q=>this q.symm
theorem zxt {e:Int} (e0:0≤e):∀ (l:List Int) {B:Ben},B.Ok→(∀ d∈l,(Act.f d).Ok B)→(does B (l.map Act.f)).nP e=if e∈l then 0 else B.nP e
 | [],B,_,_=>by simp [does]
 | d::l,B,hB,hA=>by
  have ha:=hA d (List.mem_cons_self ..);show (does (B.does1 (.f d)) (l.map Act.f)).nP e=_
  rw [zxt e0 l (zj5 hB ha).ok (fun c hc=>zoY hB ha (hA c (List.mem_cons_of_mem _ hc))),zBD ha e0]
  dsimp only
  by_cases h1:e∈l
  ·rw [if_pos h1,if_pos (List.mem_cons_of_mem _ h1)]
  ·rw [if_neg h1]
   by_cases h2:e=d
   ·rw [if_pos h2,if_pos (by rw [h2]; exact List.mem_cons_self ..)]
   ·rw [if_neg h2,if_neg (fun q=>by rcases List.mem_cons.1 q with r | r; exact h2 r; exact h1 r)]
structure Dn (B:Ben) (live:List Bool) (K:Int) (B1:Ben):Prop where
 nx:Nx K B B1
 like:Like B B1
 down:B1.down=false
 left:B1.left=B.left
 nP:∀ e:Int,0≤e→B1.nP e=0∨B1.nP e=B.nP e
 nU:∀ e:Int,0≤e→B.up live e=false→B1.nP e=B.nP e
 oth:∀ e b:Int,0≤e→0≤b→b < 52→B.up live e=false→B1.cur e b=B.cur e b
structure Putd (B:Ben) (live:List Bool) (l:List (List Int)) (B1:Ben):Prop extends Dn B live 32 B1 where
 cur:∀ e b:Int,0≤e→0≤b→b < 52→B1.cur e b=if B.up live e=true∧2≤b∧b < 6 then l.getD (b - 2).toNat [] else B.cur e b
 nZ:∀ e:Int,0≤e→B.up live e=true→B1.nP e=0
theorem zGK (hB:B.Ok) (hd:B.down=false) (hl:B.left < 0) {seq:Int} {is:List Itm} (he:recE seq is=0) (hs:∀ i∈is,Sec i.x):
  (B.put live seq is).1=0∧Putd B live (encR seq is) (B.put live seq is).2:=by
 obtain ⟨h3,_,_⟩:=zmC he;have hel:=zrT seq h3;have hes:=zxp seq h3 hs;have hp:=zGJ (B:=B) (live:=live) hel hes
 have hok:∀ a∈zmi (B.onL live) (encR seq is)++B.fActs live,a.Ok B:=by
  intro a ha;rcases List.mem_append.1 ha with ha | ha
  ·exact hp a ha
  ·exact zFV a ha
 have hD:=zwy _ hB hd hok (.inl hl);obtain ⟨n1,l1⟩:=zG9 hB live seq hs
 have e:B.put live seq is=(0,does B (zmi (B.onL live) (encR seq is)++B.fActs live)):=by unfold Ben.put; rw [if_pos he]; exact hD.run
 rw [e] at n1 l1 ⊢
 have hon:∀ e:Int,0≤e→(e∈B.onL live↔B.up live e=true):=fun e e0=>by rw [ztH]; exact ⟨fun h=>h.2,fun h=>⟨e0,h⟩⟩
 have hcur:∀ e b:Int,0≤e→0≤b→b < 52→(does B (zmi (B.onL live) (encR seq is)++B.fActs live)).cur e b=if B.up live e=true∧2≤b∧b < 6 then (encR seq is).getD (b - 2).toNat [] else B.cur e b:=fun e b e0 b0 b1=>by
  rw [hD.cur e b e0 b0 b1,znB,zCG,zvA hel];simp only [hon e e0]
 have hnP:∀ e:Int,0≤e→(does B (zmi (B.onL live) (encR seq is)++B.fActs live)).nP e=if B.up live e=true then 0 else B.nP e:=fun e e0=>by
  obtain ⟨k1,k2⟩:=zES hB hp
  rw [zsO,←zID,zxt e0 _ k1 fun d hd=>k2 _ (by rw [ztH] at hd; exact ⟨zeL.2 ⟨hd.1,zzd hd.2⟩,zik hd.2⟩)]
  simp only [hon e e0]
  by_cases hu:B.up live e=true
  ·rw [if_pos hu,if_pos hu]
  ·rw [if_neg hu,if_neg hu]
   refine zxs e0 _ hB hp fun a ha=>?_
   obtain ⟨d,hd,i,hi,rfl⟩:=ztK ha;intro q;have q:d=e:=q;subst q;exact hu (ztH.1 hd).2
 refine ⟨rfl,⟨n1,l1,hD.down.trans hd,by rw [hD.left,if_pos hl],fun e e0=>?_,fun e e0 hu=>?_,fun e b e0 b0 b1 hu=>?_⟩,hcur,fun e e0 hu=>?_⟩
 ·rw [hnP e e0]; split
  ·exact .inl rfl
  ·exact .inr rfl
 ·rw [hnP e e0,if_neg (by simp [hu])]
 ·rw [hcur e b e0 b0 b1,if_neg (by simp [hu])]
 ·rw [hnP e e0,if_pos hu]
theorem zCH (hB:B.Ok) (hd:B.down=false) (hl:B.left < 0) {seq:Int} {A:Int} {f:Int→List Int} {ds:List Int} (he:recE seq (ds.map fun d=>(⟨d,A,f d⟩:Itm))=0) (hs:∀ d∈ds,Sec (f d))
  (hu:∀ d∈ds,0≤d∧B.up live d=true):
  (B.apply live seq (ds.map fun d=>(⟨d,A,f d⟩:Itm))).1=0∧Dn B live 3 (B.apply live seq (ds.map fun d=>(⟨d,A,f d⟩:Itm))).2∧
   (∀ e b:Int,0≤e→0≤b→b < 52→(B.apply live seq (ds.map fun d=>(⟨d,A,f d⟩:Itm))).2.cur e b=if b=A∧e∈ds then f e else B.cur e b):=by
 have hes:∀ i∈(ds.map fun d=>(⟨d,A,f d⟩:Itm)),Sec i.x:=by intro i hi; obtain ⟨d,hd,rfl⟩:=List.mem_map.1 hi; exact hs d hd
 have hA:∀ d∈ds,36≤A∧A < 52:=fun d hd=>by
  have:=zEY he (List.mem_map.2 ⟨d,hd,rfl⟩); exact ⟨this.2.2.1,this.2.2.2.1⟩
 have e1:(ds.map fun d=>(⟨d,A,f d⟩:Itm)).flatMap (wI B live)=ds.map fun d=>Act.w d A (f d):=by
  clear he hs hes hA
  induction ds with
  | nil=>rfl
  | cons d ds ih=>
   rw [List.map_cons,List.flatMap_cons,List.map_cons,ih fun d hd=>hu d (List.mem_cons_of_mem _ hd)]
   show (if B.up live d=true then _ else _)++_=_
   rw [if_pos (hu d (List.mem_cons_self ..)).2]; rfl
 have e2:aOn B live (ds.map fun d=>(⟨d,A,f d⟩:Itm))=ds:=by
  clear he hs hes hA e1;unfold aOn;rw [List.filter_map,List.map_map]
  rw [show List.filter ((fun (x:Itm)=>B.up live x.d) ∘ fun d=>(⟨d,A,f d⟩:Itm)) ds=ds from List.filter_eq_self.2 fun d hd=>(hu d hd).2]
  exact List.map_id ds
 have e3:zCF B live (ds.map fun d=>(⟨d,A,f d⟩:Itm))=(ds.map fun d=>Act.w d A (f d))++ds.map Act.f:=by unfold zCF; rw [e1,e2]
 have hp:∀ a∈(ds.map fun d=>Act.w d A (f d)),a.Ok B:=by
  intro a ha;obtain ⟨d,hd,rfl⟩:=List.mem_map.1 ha;obtain ⟨d0,hu⟩:=hu d hd
  exact ⟨zeL.2 ⟨d0,zzd hu⟩,zik hu,by have:=hA d hd; omega,(hA d hd).2,hs d hd⟩
 have hf:∀ d∈ds,(Act.f d).Ok B:=fun d hd=>⟨zeL.2 ⟨(hu d hd).1,zzd (hu d hd).2⟩,zik (hu d hd).2⟩
 have hok:∀ a∈(ds.map fun d=>Act.w d A (f d))++ds.map Act.f,a.Ok B:=by
  intro a ha;rcases List.mem_append.1 ha with ha | ha
  ·exact hp a ha
  ·obtain ⟨d,hd,rfl⟩:=List.mem_map.1 ha; exact hf d hd
 have hD:=zwy _ hB hd hok (.inl hl);obtain ⟨n1,l1⟩:=zGH hB live seq hes
 have e:B.apply live seq (ds.map fun d=>(⟨d,A,f d⟩:Itm))=(0,does B ((ds.map fun d=>Act.w d A (f d))++ds.map Act.f)):=by unfold Ben.apply; rw [if_pos he,e3]; exact hD.run
 rw [e] at n1 l1 ⊢
 have hcur:∀ e b:Int,0≤e→0≤b→b < 52→(does B ((ds.map fun d=>Act.w d A (f d))++ds.map Act.f)).cur e b=if b=A∧e∈ds then f e else B.cur e b:=fun e b e0 b0 b1=>by
  rw [hD.cur e b e0 b0 b1,znB,zHa,zBJ]
 have hnP:∀ e:Int,0≤e→(does B ((ds.map fun d=>Act.w d A (f d))++ds.map Act.f)).nP e=if e∈ds then 0 else B.nP e:=fun e e0=>by
  obtain ⟨k1,k2⟩:=zES hB hp
  rw [zsO,zxt e0 _ k1 fun d hd=>k2 _ (hf d hd)]
  by_cases hm:e∈ds
  ·rw [if_pos hm,if_pos hm]
  ·rw [if_neg hm,if_neg hm]
   refine zxs e0 _ hB hp fun a ha=>?_
   obtain ⟨d,hd,rfl⟩:=List.mem_map.1 ha;intro q;have q:d=e:=q;subst q;exact hm hd
 refine ⟨rfl,⟨n1,l1,hD.down.trans hd,by rw [hD.left,if_pos hl],fun e e0=>?_,fun e e0 hu'=>?_,fun e b e0 b0 b1 hu'=>?_⟩,hcur⟩
 ·rw [hnP e e0]; split
  ·exact .inl rfl
  ·exact .inr rfl
 ·rw [hnP e e0,if_neg (fun q=>by have:=(hu e q).2; rw [hu'] at this; cases this)]
 ·rw [hcur e b e0 b0 b1,if_neg (fun q=>by have:=(hu e q.2).2; rw [hu'] at this; cases this)]
def Std (B:Ben) (live:List Bool) (g:Geo) (D:Nat→List (List Int)):Prop:=∀ r:Nat,r < 16→Row g (D r)∧∀ e:Int,0≤e→e < g.d→B.up live e=true→B.cur e (36+(r:Int))=atR g r (D r) e
def setRow (D:Nat→List (List Int)) (g:Geo) (a:Int) (x:List Int):Nat→List (List Int):=fun r=>if (r:Int)=rowG g a then (D r).set (zcY g a).toNat x else D r
def ze3 (B:Ben) (live:List Bool) (g:Geo) (a:Int):List Int:=[zc1 g (rowG g a) (zcY g a),(parP g (rowG g a)).1,(parP g (rowG g a)).2].filter fun d=>decide (0≤d) && B.up live d
theorem zjQ {g:Geo} {a d:Int}:d∈ze3 B live g a↔(d=zc1 g (rowG g a) (zcY g a)∨d=(parP g (rowG g a)).1∨d=(parP g (rowG g a)).2)∧0≤d∧B.up live d=true:=by
 unfold ze3;rw [List.mem_filter];simp only [List.mem_cons,List.not_mem_nil,or_false,Bool.and_eq_true,decide_eq_true_eq]
theorem zzm {g:Geo} {a:Int} (a0:0≤a) (a1:a < g.cap):(ze3 B live g a).Nodup:=by
 obtain ⟨hpf,c0,c1,c2⟩:=zii a0 a1;have h1:=zwA hpf c0 c1;have h2:=zEd hpf
 refine List.Pairwise.filter _ (show List.Nodup _ from ?_)
 simp only [List.nodup_cons,List.mem_cons,List.not_mem_nil,or_false,not_or,not_false_eq_true,List.nodup_nil,and_true];exact ⟨h1,h2⟩
theorem zE4 {g:Geo} {a:Int}:(ze3 B live g a).length≤3:=List.length_filter_le ..
theorem Std.read {g:Geo} {D:Nat→List (List Int)} (h:Std B live g D) (hlost:(B.lostN live g:Int)≤g.l - 4) (hk:g.ok=true) (hd:B.down=false) {r:Nat} (hr:r < 16):B.sRead live g (r:Int)=(D r,0):=by
 obtain ⟨hR,hs⟩:=h r hr
 have hf:zcL g (r:Int)=true:=zbz.2 ⟨hk,by omega,by omega⟩
 unfold Ben.sRead
 rw [if_neg (by simp [hf]),if_neg (by simp [hd]),zsQ hf hR hs,if_pos hlost]
theorem zzn {g:Geo} {D:Nat→List (List Int)} (hS:Std B live g D) (hlost:(B.lostN live g:Int)≤g.l - 4) (hd:B.down=false) {a:Int} (a0:0≤a) (a1:a < g.cap) {x:List Int} (hx:Sec x) (seq:Int):
  B.uPlan live g a x seq=((seq,(ze3 B live g a).map fun d=>⟨d,36+rowG g a,atR g (rowG g a) (setRow D g a x (rowG g a).toNat) d⟩),0):=by
 obtain ⟨hpf,c0,c1,c2⟩:=zii a0 a1;obtain ⟨hk,r0,r1⟩:=zbz.1 hpf;have hof:ofP g a=(zc1 g (rowG g a) (zcY g a),rowG g a,true):=if_pos ⟨a0,a1⟩
 have hrd:=hS.read hlost hk hd (r:=(rowG g a).toNat) (by omega)
 rw [show (((rowG g a).toNat:Nat):Int)=rowG g a by omega] at hrd
 unfold Ben.uPlan
 rw [if_neg (by rw [hx.len]; simp),hof]
 dsimp only
 rw [if_neg (by simp),hrd,if_neg (by simp)]
 have:setRow D g a x (rowG g a).toNat=(D (rowG g a).toNat).set (zcY g a).toNat x:=if_pos (by omega)
 unfold zzl;rw [hof,this];rfl
theorem zvC {g:Geo} {D:Nat→List (List Int)} {a:Int} {x:List Int} (hx:Sec x) {r:Nat} (h:Row g (D r)):Row g (setRow D g a x r):=by
 unfold setRow;split
 ·exact ⟨by rw [List.length_set]; exact h.len,fun y hy=>by
   rcases List.mem_or_eq_of_mem_set hy with hy | rfl
   ·exact h.sec y hy
   ·exact hx⟩
 ·exact h
structure Upd (B:Ben) (live:List Bool) (g:Geo) (D:Nat→List (List Int)) (a:Int) (x:List Int) (seq:Int) (B2:Ben):Prop extends Dn B live 35 B2 where
 nZ:∀ e:Int,0≤e→B.up live e=true→B2.nP e=0
 std:Std B2 live g (setRow D g a x)
 row:∀ e b:Int,0≤e→36≤b→b < 52→b≠36+rowG g a→B2.cur e b=B.cur e b
 low:∀ e b:Int,0≤e→0≤b→b < 36→b < 2∨6≤b→B2.cur e b=B.cur e b
 log:∀ e b:Int,0≤e→2≤b→b < 6→B.up live e=true→B2.cur e b=(encR seq ((ze3 B live g a).map fun d=>⟨d,36+rowG g a,atR g (rowG g a) (setRow D g a x (rowG g a).toNat) d⟩)).getD (b - 2).toNat []
theorem Dn.up {K:Int} {B1:Ben} (h:Dn B live K B1) (e:Int):B1.up live e=B.up live e:=h.like.up live e
theorem zIG {g:Geo} {D:Nat→List (List Int)} (hS:Std B live g D) {a:Int} (a0:0≤a) (a1:a < g.cap) {x:List Int} (hx:Sec x) {seq:Int} (s0:1≤seq) (s1:seq≤2147483647):
  recE seq ((ze3 B live g a).map fun d=>(⟨d,36+rowG g a,atR g (rowG g a) (setRow D g a x (rowG g a).toNat) d⟩:Itm))=0∧
   ∀ d∈ze3 B live g a,d < g.d∧Sec (atR g (rowG g a) (setRow D g a x (rowG g a).toNat) d):=by
 obtain ⟨hpf,c0,c1,c2⟩:=zii a0 a1;obtain ⟨hk,r0,r1⟩:=zbz.1 hpf;have hdd:=ok_d hk
 have hR':Row g (setRow D g a x (rowG g a).toNat):=zvC hx (hS _ (by omega)).1
 have hdg:∀ d∈ze3 B live g a,d < g.d:=fun d hd=>by
  obtain ⟨h1,d0,hu⟩:=zjQ.1 hd;have hpi:=zlz hpf;have hdi:=zhR hpf c0 c1;rcases h1 with rfl | rfl | rfl
  ·exact hdi.2
  ·exact hpi.2.1
  ·rcases hpi.2.2 with q | q<;>omega
 have hsec:∀ d∈ze3 B live g a,Sec (atR g (rowG g a) (setRow D g a x (rowG g a).toNat) d):=fun d hd=>zyE hpf hR' (zjQ.1 hd).2.1 (hdg d hd)
 refine ⟨?_,fun d hd=>⟨hdg d hd,hsec d hd⟩⟩
 have hl:=zE4 (B:=B) (live:=live) (g:=g) (a:=a)
 have hio:=zvB (is:=(ze3 B live g a).map fun d=>(⟨d,36+rowG g a,atR g (rowG g a) (setRow D g a x (rowG g a).toNat) d⟩:Itm)) (by
  intro i hi;obtain ⟨d,hd,rfl⟩:=List.mem_map.1 hi;have h1:=hdg d hd;have h2:=(hsec d hd).len;have h3:=(zjQ.1 hd).2.1;unfold Itm.ok;simp only [Bool.and_eq_true,decide_eq_true_eq,beq_iff_eq]
  exact ⟨h3,by omega,by omega,by omega,by omega⟩) (zIF _ _ (zzm a0 a1)) _ (Nat.le_refl _)
 unfold recE
 rw [if_neg (by rw [hio,List.length_map]; simp; omega)]
theorem zGL (hB:B.Ok) (hd:B.down=false) (hl:B.left < 0) {g:Geo} {D:Nat→List (List Int)} (hS:Std B live g D) (hlost:(B.lostN live g:Int)≤g.l - 4) {a:Int} (a0:0≤a) (a1:a < g.cap) {x:List Int} (hx:Sec x) {seq:Int} (s0:1≤seq) (s1:seq≤2147483647):
  (B.uDo live g a x seq).1=0∧Upd B live g D a x seq (B.uDo live g a x seq).2:=by
 obtain ⟨hpf,c0,c1,c2⟩:=zii a0 a1;obtain ⟨hk,r0,r1⟩:=zbz.1 hpf;obtain ⟨he,hdg⟩:=zIG (live:=live) hS a0 a1 hx s0 s1;have hpl:=zzn hS hlost hd a0 a1 hx seq
 have hdm:∀ d∈ze3 B live g a,0≤d∧B.up live d=true:=fun d hd=>(zjQ.1 hd).2
 have hu:B.uDo live g a x seq=if (B.put live seq ((ze3 B live g a).map fun d=>⟨d,36+rowG g a,atR g (rowG g a) (setRow D g a x (rowG g a).toNat) d⟩)).1≠0 then B.put live seq ((ze3 B live g a).map fun d=>⟨d,36+rowG g a,atR g (rowG g a) (setRow D g a x (rowG g a).toNat) d⟩)
   else (B.put live seq ((ze3 B live g a).map fun d=>⟨d,36+rowG g a,atR g (rowG g a) (setRow D g a x (rowG g a).toNat) d⟩)).2.apply live seq ((ze3 B live g a).map fun d=>⟨d,36+rowG g a,atR g (rowG g a) (setRow D g a x (rowG g a).toNat) d⟩):=by
  unfold Ben.uDo; rw [hpl]; simp
 rw [hu]
 obtain ⟨F,hF'⟩:∃ F:Int→List Int,∀ d,atR g (rowG g a) (setRow D g a x (rowG g a).toNat) d=F d:=⟨_,fun _=>rfl⟩
 simp only [hF'] at he hdg hpl ⊢;clear hu
 obtain ⟨p1,p2⟩:=zGK hB hd hl he (live:=live) (by intro i hi; obtain ⟨d,hd,rfl⟩:=List.mem_map.1 hi; exact (hdg d hd).2)
 rw [if_neg (by simp [p1])]
 generalize (B.put live seq ((ze3 B live g a).map fun d=>⟨d,36+rowG g a,F d⟩)).2=B1 at*
 have hup:=p2.toDn.up
 obtain ⟨q1,q2,q3⟩:=zCH (live:=live) p2.nx.ok p2.down (by rw [p2.left]; exact hl) he (fun d hd=>(hdg d hd).2) (fun d hd=>by rw [hup]; exact hdm d hd)
 generalize (B1.apply live seq ((ze3 B live g a).map fun d=>⟨d,36+rowG g a,F d⟩)).2=B2 at*
 have hup2:=q2.up
 have hcur:∀ e b:Int,0≤e→36≤b→b < 52→B2.cur e b=if b=36+rowG g a∧e∈ze3 B live g a then F e else B.cur e b:=fun e b e0 b0 b1=>by
  rw [q3 e b e0 (by omega) b1,p2.cur e b e0 (by omega) b1,if_neg (show ¬ (B.up live e=true∧2≤b∧b < 6) by omega)]
 refine ⟨q1,⟨p2.nx.trans q2.nx,p2.like.trans q2.like,q2.down,q2.left.trans p2.left,fun e e0=>?_,fun e e0 hu=>?_,fun e b e0 b0 b1 hu=>?_⟩,fun e e0 hu=>?_,fun r hr=>⟨zvC hx (hS r hr).1,fun e e0 e1 hu=>?_⟩,fun e b e0 b0 b1 hne=>?_,fun e b e0 b0 b1 hb=>?_,fun e b e0 b0 b1 hu=>?_⟩
 ·rcases q2.nP e e0 with h | h
  ·exact .inl h
  ·rw [h]; exact p2.nP e e0
 ·rw [q2.nU e e0 (by rw [hup]; exact hu),p2.nU e e0 hu]
 ·rw [q2.oth e b e0 b0 b1 (by rw [hup]; exact hu),p2.oth e b e0 b0 b1 hu]
 ·have:=p2.nZ e e0 hu;rcases q2.nP e e0 with h | h
  ·exact h
  ·rw [h]; exact this
 ·rw [hup2,hup] at hu
  rw [hcur e _ e0 (by omega) (by omega)]
  by_cases hrr:(r:Int)=rowG g a
  ·by_cases hm:e∈ze3 B live g a
   ·rw [if_pos ⟨by omega,hm⟩,←hF' e]
    rw [←hrr]; rfl
   ·rw [if_neg (fun q=>hm q.2),(hS r hr).2 e e0 e1 hu]
    have hne:¬ (e=zc1 g (rowG g a) (zcY g a)∨e=(parP g (rowG g a)).1∨e=(parP g (rowG g a)).2):=fun q=>hm (zjQ.2 ⟨q,e0,hu⟩)
    unfold setRow;rw [if_pos hrr];unfold atR;rw [hrr]
    rw [if_neg (fun q=>hne (.inr (.inl q))),if_neg (fun q=>hne (.inr (.inr q))),if_neg (fun q=>hne (.inr (.inl q))),if_neg (fun q=>hne (.inr (.inr q)))]
    obtain ⟨k0,k1,k2⟩:=zj6 hpf e0 e1 (fun q=>hne (.inr (.inl q))) (fun q=>hne (.inr (.inr q)))
    rw [List.getD_eq_getElem?_getD,List.getD_eq_getElem?_getD,List.getElem?_set,if_neg];intro q;refine hne (.inl ?_)
    rw [show zcY g a=zfW g e (rowG g a) by omega,k2]
  ·rw [if_neg (by omega),(hS r hr).2 e e0 e1 hu]
   unfold setRow;rw [if_neg hrr]
 ·rw [hcur e b e0 b0 b1,if_neg (fun q=>hne q.1)]
 ·rw [q3 e b e0 b0 (by omega),if_neg (by omega),p2.cur e b e0 b0 (by omega),if_neg (by omega)]
 ·rw [q3 e b e0 (by omega) (by omega),if_neg (by omega),p2.cur e b e0 (by omega) (by omega),if_pos ⟨hu,b0,b1⟩]
  simp only [hF']
end
end Wf

namespace Wf
open Go Go.RowKit Go.Proofs
set_option linter.unusedSimpArgs false
set_option linter.unusedVariables false
set_option maxHeartbeats 4000000
theorem zzo {x:List Int} (h:Sec x):zsn (uL x)=true:=by
 unfold zsn uL;rw [List.all_map,List.all_eq_true];intro n hn;exact decide_eq_true (h.byt n hn)
theorem zAx (t t':Tag) {x:List Int} (h:Sec x):zbu [.sl t (uL x),.sl t' (uL x)]=some (.bool true):=by
 rw [zrC,zcH];unfold zkz;rw [zaa (zzo h),zaa (zzo h)];simp
theorem zAy (t t':Tag) {ps qs:List Part} (hn:ps.length < 100000) (h:ps.map (·.2)=qs.map (·.2)) (hs:∀ x∈ps,Sec x.2):zaA [.sl t (pL ps),.sl t' (pL qs),.fn ID.bytes_Equal [] []]=some (.bool true):=by
 have e:=zd5 t t' (pL ps) (pL qs);rw [zcV,zcV] at e;refine e.trans ?_;clear e
 have hm1:(ps.map fun x=>(zbN x.1 x.2,x.2)).map (·.2)=ps.map (·.2):=by rw [List.map_map]; rfl
 have hm2:(qs.map fun x=>(zbN x.1 x.2,x.2)).map (·.2)=qs.map (·.2):=by rw [List.map_map]; rfl
 have hs':∀ x∈(ps.map fun x=>(zbN x.1 x.2,x.2)),Sec x.2:=by intro x hx; obtain ⟨y,hy,rfl⟩:=List.mem_map.1 hx; exact hs y hy
 have hl:(ps.map fun x=>(zbN x.1 x.2,x.2)).length=ps.length:=by simp
 rw [←hl] at hn;rw [←hm1,←hm2] at h
 generalize (ps.map fun x=>(zbN x.1 x.2,x.2))=rs at*
 generalize (qs.map fun x=>(zbN x.1 x.2,x.2))=us at*
 clear hm1 hm2 hs hl ps qs
 have hlen:rs.length=us.length:=by have:=congrArg List.length h; simpa using this
 unfold zb5
 rw [zer,zer,zha (by omega)]
 let st:Nat→(List D×List D×Int×Int×PUnit)×PUnit:=fun k=>((pL us,pL rs,(rs.length:Int),(k:Int),PUnit.unit),PUnit.unit)
 show zb1 _ (st 0)=_
 refine zb8 st rs.length (by omega) ?_ ?_
 ·intro again k hk;dsimp only [st]
  have hk2:(k:Int) < (rs.length:Int):=by omega
  have hg1:rs[k]? =some rs[k]:=List.getElem?_eq_getElem hk
  have hg2:us[k]? =some us[k]:=List.getElem?_eq_getElem (by omega)
  have he:us[k].2=rs[k].2:=by
   have h1:(rs.map (·.2))[k]? =some rs[k].2:=by rw [List.getElem?_map,hg1]; rfl
   have h2:(us.map (·.2))[k]? =some us[k].2:=by rw [List.getElem?_map,hg2]; rfl
   rw [h,h2] at h1;exact Option.some.inj h1
  have hsx:=hs' _ (List.getElem_mem hk)
  rw [decide_eq_true hk2,zaJ,zaa (by omega),Int.toNat_natCast,zak (zc4 hg1),zdg,zaa (by omega),zak (zc4 hg2),zdg,he,zAx _ _ hsx,zab,zbe,Bool.not_true,zan,zap,zdq (by omega)]
 ·intro again;dsimp only [st]
  rw [zfN (by omega)]
theorem zE5 {g:Geo} {r:Int} {data:List (List Int)} (hr:zcL g r=true) (hR:Row g data) (tg:Tag) {ps:List Part} (hp:ps.map (·.2)=zcC g r data) (ht:zrg g r (zcC g r data)=some data):
  zdl [.agg [.int .i64 g.l,.int .i64 g.d,.int .i64 g.c],.int .i64 r,.sl tg (pL ps)]=some (.bool true):=by
 have hdd:=ok_d (zbz.1 hr).1
 have hlen:ps.length=g.d.toNat:=by have:=congrArg List.length hp; rw [zhA] at this; simpa using this
 have hw:=hR.len;have hwd:=zca (zbz.1 hr).1;rw [zum,zcV]
 have hm1:(ps.map fun x=>(zbN x.1 x.2,x.2)).map (·.2)=ps.map (·.2):=by rw [List.map_map]; rfl
 have hl:(ps.map fun x=>(zbN x.1 x.2,x.2)).length=ps.length:=by simp
 rw [←hm1] at hp;rw [←hl] at hlen
 generalize (ps.map fun x=>(zbN x.1 x.2,x.2))=rs at*
 clear hm1 hl ps;unfold zoe
 have hfill:zwB g r data=some (zcC g r data):=if_pos ⟨hr,hR.len,List.all_eq_true.2 fun y hy=>decide_eq_true (hR.sec y hy).len⟩
 have hsec:∀ x∈fP (zcC g r data),Sec x.2:=by
  intro x hx;obtain ⟨y,hy,rfl⟩:=List.mem_map.1 hx;obtain ⟨d,hd,rfl⟩:=List.mem_map.1 hy;have:=List.mem_range.1 hd
  exact zyE hr hR (by omega) (by omega)
 rw [zBB g r .lent (by omega),hp,ht,zab]
 unfold solD;dsimp only;rw [zdm,zc5];dsimp only
 rw [zbl,zbe,Bool.not_true,zan,zaa (by omega),zbW,zBA g r .lent (by rw [zhm]; omega),zpJ,hfill,zab]
 unfold solD;dsimp only;rw [zdm,zc5];dsimp only
 rw [zbl,zbe,zaJ,zaa (by omega),zbW,zAy .lent .lent (ps:=fP (zcC g r data)) (by rw [zhm,zhA]; omega) (by rw [zpJ,hp]) hsec,zab,zbe]
section
variable {U V:Tb} {b:Nat} {idx:List Nat} {B:Ben} {n:Nat} {K:Int}
theorem Run.udo (h:Run U V b idx B n K) (hK:K≤900000) (tg:Tag) {live:List Bool} (hf:B.NoF live) {g:Geo} {Dr:Nat→List (List Int)} (hS:Std B live g Dr) (hlost:(B.lostN live g:Int)≤g.l - 4) {a:Int} (a0:0≤a) (a1:a < g.cap) (tgx:Tag) {x:List Int} (hx:Sec x) {seq:Int} (s0:1≤seq) (s1:seq≤2147483647):∃ B2,
  zcU [.h kB b 0,.sl tg (live.map D.bool),.agg [.int .i64 g.l,.int .i64 g.d,.int .i64 g.c],.int .i64 a,.sl tgx (uL x),.int .i64 seq] [P0 U b idx B,P1 V idx B]=some (Ans.mk (.int .i64 0) [] [P0 U b idx B2,P1 V idx B2])∧
   Run U V b idx B2 n (K+35)∧Upd B live g Dr a x seq B2:=by
 have hw:=h.w
 have hu:=zE3 h.at' (by omega) tg hf g a tgx (fun _=>hx) seq
 obtain ⟨e1,e2⟩:=zGL h.at'.ok h.down (by rw [h.left]; omega) hS hlost a0 a1 hx s0 s1
 rw [e1] at hu;have hnx:=e2.nx.w;refine ⟨(B.uDo live g a x seq).2,hu,⟨h.at'.nx e2.nx,e2.nx.n.trans h.num,e2.down,e2.left.trans h.left,?_⟩,e2⟩;omega
end
theorem zIH:zbk []=some (.bool true):=by
 have e:=zk7
 rw [e,zaa (by rfl)]
 unfold zfD
 obtain ⟨U,V,idx,hnew,hB,hS⟩:=zIA [] [] (n:=3) (by omega) (by omega)
 simp only [List.length_nil] at hnew hB;have hsec:=zkA 4;let g:Geo:=⟨5,3,1⟩
 have hup:∀ e:Int,0≤e→(Ben.new 3).up (List.replicate 3 true) e=decide (e < 3):=fun e e0=>by
  rw [zER (by simp [Ben.new,Ben.n]) e0,hS.failed]; simp
 have hstd:Std (Ben.new 3) (List.replicate 3 true) g fun _=>zoj g:=fun r hr=>⟨zGr (g:=g) rfl,fun e e0 e1 _=>by
  rw [zEM 3 e (by omega) (by omega),zIp (zbz.2 ⟨rfl,by omega,by omega⟩) e0 e1]⟩
 have hl:((Ben.new 3).lostN (List.replicate 3 true) g:Int)≤g.l - 4:=by
  have:(Ben.new 3).lostN (List.replicate 3 true) g=0:=by
   unfold Ben.lostN;rw [List.countP_eq_zero];intro d hd;have h3:d < 3:=List.mem_range.1 hd
   rw [hup d (by omega)]; simp; omega
  rw [this]; decide
 have hpl:=zzn hstd hl rfl (a:=3) (by omega) (by decide) (zxg 4) 1
 have hud:(ze3 (Ben.new 3) (List.replicate 3 true) g 3)=[0,1]:=by
  unfold ze3
  rw [show [zc1 g (rowG g 3) (zcY g 3),(parP g (rowG g 3)).1,(parP g (rowG g 3)).2]=[0,1,-1] by decide]
  rw [List.filter_cons,List.filter_cons,List.filter_cons,hup 0 (by omega),hup 1 (by omega)]
  rfl
 rw [hud] at hpl
 have hup2:=ztJ hB.at' (by have:=hB.w; omega) .full (List.replicate 3 true) g 3 .lent (secN 4) 1
 rw [hpl] at hup2;have e1:[D.bool true,D.bool true,D.bool true]=(List.replicate 3 true).map D.bool:=rfl;have e2:D.agg [D.int IntKind.i64 5,D.int IntKind.i64 3,D.int IntKind.i64 1]=.agg [.int .i64 g.l,.int .i64 g.d,.int .i64 g.c]:=rfl;have hnew3:zbD [D.int .i64 3] [[],[]]=some (Ans.mk (.tup [.h kB 0 0,.int .i64 0]) [] [P0 U 0 idx (Ben.new 3),P1 V idx (Ben.new 3)]):=hnew;rw [hnew3,zab];dsimp only;rw [zaP,zbV,zbV,zaP,zdm,zc5];dsimp only
 rw [zaa (by rfl),zaX,zha rfl,zwh,zan,hsec,zab,zbl,zaa (by omega),zbW,e1,e2,hup2,zab]
 dsimp only;rw [zaP,zaP,zdm,zc5];dsimp only;rw [zeJ,zb7,zgt,zch];dsimp only;rw [zaX,zBb rfl,zvv];rfl
end Wf

namespace Wf
open Go Go.RowKit Go.Proofs
open PUnit (unit)
set_option linter.unusedVariables false
set_option maxRecDepth 100000
def ze4:Ann:={ loops:=[(1,dd 2 (.val (.cell .lent)::dd 4 [.box true [(.int .i64),(.int .i64),(.int .i64)],.ptr 2496,.own 1,.val (.cell (.int .i64))])),(4,dd 2 (.val (.cell .lent)::dd 4 (.box true [(.int .i64),(.int .i64),(.int .i64)]::.ptr 2496::.own 1::.val (.cell (.int .i64))::.ptr 2496::dd 2 [.val (.cell (.int .i64)),.dead,.val (.cell (.int .i64))]))),(6,dd 2 (.val (.cell .lent)::dd 4 (.box true [(.int .i64),(.int .i64),(.int .i64)]::.ptr 2496::.own 1::.val (.cell (.int .i64))::.ptr 2496::dd 2 [.val (.cell (.int .i64)),.dead,.val (.cell (.int .i64)),.own 1,.val (.cell (.int .i64))])))],ks:=[(2496,true),(8225,true)] }
noncomputable def zd6:Zp:=denT Tryz.prog (zaz [(ID.wattleplay_Good,(.pure [0] zbI)),(ID.wattlelaw14_Filled,(.st [] [0] [(2496,true),(8225,true)] zbd)),(ID.wattleplay_Live,(.pure [1] zbK)),(ID.bench_Bench_Clone,(.st [] [0] [(2496,true),(8225,true)] zbc)),(ID.wattleref01_Capacity,(.pure [0] zaE)),(ID.wattlekeep_Within,(.pure [0] zac)),(ID.wattleplay_Sector,(.pure [1] zaw)),(ID.update_Do,(.st [] [0] [(2496,true),(8225,true)] zcU)),(ID.wattleref01_Of,(.pure [0,0,0] zbU)),(ID.bench_Bench_Read,(.st [] [1,0] [(2496,false),(8225,false)] zaL)),(ID.wattlekeep_Same_byte,(.pure [0] za9)),(ID.row_Right,(.pure [0] zdl)),(ID.wattlelaw15_wakes,(.pure [0] zbk))]) ze4 [0] ID.wattlelaw15_UpdateRows
theorem sound_wattlelaw15_UpdateRows:za1 Tryz.prog ID.wattlelaw15_UpdateRows (.pure [0] zd6):=zu2 (zaC [zmI,zkj,zmU,zk8,zfn,zdA,zeu,zuj,zoc,zgV,zi1,zul,zk6]) zbm ⟨Tryz.f4,by kernel_rfl,by kernel_rfl,by kernel_rfl⟩
noncomputable def zd7 (zbI:Zp) (zbd:Zs) (zbK:Zp) (zbc:Zs) (zaE zac zaw:Zp) (zcU:Zs) (zbU:Zp) (zaL:Zs) (za9 zdl zbk:Zp) (a0:Int) (a1 a2:List D):Option D:=
 zar (zbI [.int .i64 a0]) fun r1=>
 asAgg r1 fun cs2=>
 zay ([Lf.int .i64,Lf.int .i64,Lf.int .i64]) cs2 fun c3=>
 zar (zbd [.agg [.int .i64 c3.1,.int .i64 c3.2.1,.int .i64 c3.2.2.1],.int .i64 c3.2.1,.sl .lent a1] [[],[]]) fun r4=>
 nilK r4.outs <|
 zd0 r4.tbs fun c5 q6=>
 zd0 q6 fun c7 q8=>
 nilK q8 <|
 sif (zjh r4.r=true) <|
 zoD r4.r fun b9=>
 brK b9
  (some (.bool false))
  (zar (zbK [.int .i64 0,.int .i64 c3.2.1]) fun r10=>
  zbi r10 fun l11=>
  sif (l11.length=l11.length) <|
  zb1 (α:=(List D×(Int×Int×Int×PUnit)×D×List D×Int×PUnit)×List (List D)×List (List D)×PUnit) (fun again12 ((l13,((i14,(i15,(i16,_))),(x17,(l18,(i19,_))))),(U20,(U21,_)))=>
   brK (decide (i19 < (↑(l13.length):Int)))
    (brK (decide (i19 < 6))
     (zar (zbc [x17] [U20,U21]) fun r22=>
     nilK r22.outs <|
     zd0 r22.tbs fun c23 q24=>
     zd0 q24 fun c25 q26=>
     nilK q26 <|
     sif (zjh r22.r=true) <|
     sif (0≤i19) <|
     getK l13 (i19.toNat) fun d27=>
     asI .i64 d27 fun i28=>
     zar (zaE [.agg [.int .i64 i14,.int .i64 i15,.int .i64 i16]]) fun r29=>
     asI .i64 r29 fun i30=>
     zar (zac [.int .i64 i28,.int .i64 i30]) fun r31=>
     asI .i64 r31 fun i32=>
     zoD r22.r fun b33=>
     brK b33
      (some (.bool false))
      (sif (0≤i19) <|
      getK l13 (i19.toNat) fun d34=>
      asI .i64 d34 fun i35=>
      letN (IntKind.i64.wrap (Int.tdiv i35 (3:Int))) fun n36=>
      zar (zaw [.int .i64 n36]) fun r37=>
      zbi r37 fun l38=>
      letN (IntKind.i64.wrap (i19+1)) fun n39=>
      sif (0+l18.length≤l18.length) <|
      sif (0+l38.length≤l38.length) <|
      zar (zcU [x17,.sl .lent (cut 0 l18.length l18),.agg [.int .i64 i14,.int .i64 i15,.int .i64 i16],.int .i64 i32,.sl .lent (cut 0 l38.length l38),.int .i64 n39] [c23,c25]) fun r40=>
      nilK r40.outs <|
      zd0 r40.tbs fun c41 q42=>
      zd0 q42 fun c43 q44=>
      nilK q44 <|
      asI .i64 r40.r fun i45=>
      brK (i45 != 0)
       (some (.bool false))
       (zar (zbU [.agg [.int .i64 i14,.int .i64 i15,.int .i64 i16],.int .i64 i32]) fun r46=>
       zej r46 fun ts47=>
       zay ([Lf.any,Lf.any,Lf.any]) ts47 fun c48=>
       asI .i64 c48.1 fun i49=>
       asI .i64 c48.2.1 fun i50=>
       asB c48.2.2.1 fun b51=>
       sif (l18.length=l18.length) <|
       zb1 (α:=(List D×(Int×Int×Int×PUnit)×D×List D×Int×D×Int×Int×PUnit)×List (List D)×List (List D)×PUnit) (fun again52 ((l53,((i54,(i55,(i56,_))),(x57,(l58,(i59,(x60,(i61,(i62,_)))))))),(U63,(U64,_)))=>
        brK (decide (i62 < 16))
         (sif (l58.length=l58.length) <|
         zb1 (α:=(List D×(Int×Int×Int×PUnit)×D×List D×Int×D×Int×Int×List D×Int×PUnit)×List (List D)×List (List D)×PUnit) (fun again65 ((l66,((i67,(i68,(i69,_))),(x70,(l71,(i72,(x73,(i74,(i75,(l76,(i77,_)))))))))),(U78,(U79,_)))=>
          brK (decide (i77 < i68))
           (letN (IntKind.i64.wrap (36+i75)) fun n80=>
           zar (zaL [x70,.int .i64 i77,.int .i64 n80] [U78,U79]) fun r81=>
           nilK r81.outs <|
           nilK r81.tbs <|
           zej r81.r fun ts82=>
           zay ([Lf.any,Lf.any]) ts82 fun c83=>
           zbi c83.1 fun l84=>
           asI .i64 c83.2.1 fun i85=>
           letN (IntKind.i64.wrap (36+i75)) fun n86=>
           zar (zaL [x73,.int .i64 i77,.int .i64 n86] [U78,U79]) fun r87=>
           nilK r87.outs <|
           nilK r87.tbs <|
           zej r87.r fun ts88=>
           zay ([Lf.any,Lf.any]) ts88 fun c89=>
           zbi c89.1 fun l90=>
           asI .i64 c89.2.1 fun i91=>
           brK (i85 != 0)
            (some (.bool false))
            (brK (i75 != i74)
             (sif (0+l84.length≤l84.length) <|
             sif (0+l90.length≤l90.length) <|
             zar (za9 [.sl .lent (cut 0 l84.length l84),.sl .lent (cut 0 l90.length l90)]) fun r92=>
             asB r92 fun b93=>
             brK (!b93)
              (some (.bool false))
              (sif (0+l84.length≤l84.length) <|
              sif (l76.length+1≤4294967296) <|
              sif (l76.length=l76.length) <|
              letN (IntKind.i64.wrap (i77+1)) fun n94=>
              sif (l71.length=l71.length) <|
              sif (l76.length+1=List.length (l76++[D.sl .fresh (cut 0 l84.length l84)])) <|
              again65 (((l66,(i67,i68,i69,unit),x70,l71,i72,x73,i74,i75,l76++[.sl .fresh (cut 0 l84.length l84)],n94,unit),U78,U79,unit))))
             (sif (0+l84.length≤l84.length) <|
             sif (l76.length+1≤4294967296) <|
             sif (l76.length=l76.length) <|
             letN (IntKind.i64.wrap (i77+1)) fun n95=>
             sif (l71.length=l71.length) <|
             sif (l76.length+1=List.length (l76++[D.sl .fresh (cut 0 l84.length l84)])) <|
             again65 (((l66,(i67,i68,i69,unit),x70,l71,i72,x73,i74,i75,l76++[.sl .fresh (cut 0 l84.length l84)],n95,unit),U78,U79,unit)))))
           (sif (0+l76.length≤l76.length) <|
           zar (zdl [.agg [.int .i64 i67,.int .i64 i68,.int .i64 i69],.int .i64 i75,.sl .lent (cut 0 l76.length l76)]) fun r96=>
           asB r96 fun b97=>
           brK (!b97)
            (some (.bool false))
            (letN (IntKind.i64.wrap (i75+1)) fun n98=>
            sif (l71.length=l71.length) <|
            again52 (((l66,(i67,i68,i69,unit),x70,l71,i72,x73,i74,n98,unit),U78,U79,unit)))))
          (((l53,(i54,i55,i56,unit),x57,l58,i59,x60,i61,i62,[],(0:Int),unit),U63,U64,unit)))
         (letN (IntKind.i64.wrap (i59+1)) fun n99=>
         sif (l58.length=l58.length) <|
         again12 (((l53,(i54,i55,i56,unit),x57,l58,n99,unit),U63,U64,unit))))
        (((l13,(i14,i15,i16,unit),x17,l18,i19,r22.r,i50,(0:Int),unit),c41,c43,unit)))))
     (zar (zbk []) fun r100=>
     asB r100 fun b101=>
     some (.bool b101)))
    (zar (zbk []) fun r102=>
    asB r102 fun b103=>
    some (.bool b103)))
   (((a2,(c3.1,c3.2.1,c3.2.2.1,unit),r4.r,l11,(0:Int),unit),c5,c7,unit)))
theorem zjR (zbI:Zp) (zbd:Zs) (zbK:Zp) (zbc:Zs) (zaE zac zaw:Zp) (zcU:Zs) (zbU:Zp) (zaL:Zs) (za9 zdl zbk:Zp) (tga1 tga2:Tag) (a0:Int) (a1 a2:List D):denT Tryz.prog (zaz [(ID.wattleplay_Good,(.pure [0] zbI)),(ID.wattlelaw14_Filled,(.st [] [0] [(2496,true),(8225,true)] zbd)),(ID.wattleplay_Live,(.pure [1] zbK)),(ID.bench_Bench_Clone,(.st [] [0] [(2496,true),(8225,true)] zbc)),(ID.wattleref01_Capacity,(.pure [0] zaE)),(ID.wattlekeep_Within,(.pure [0] zac)),(ID.wattleplay_Sector,(.pure [1] zaw)),(ID.update_Do,(.st [] [0] [(2496,true),(8225,true)] zcU)),(ID.wattleref01_Of,(.pure [0,0,0] zbU)),(ID.bench_Bench_Read,(.st [] [1,0] [(2496,false),(8225,false)] zaL)),(ID.wattlekeep_Same_byte,(.pure [0] za9)),(ID.row_Right,(.pure [0] zdl)),(ID.wattlelaw15_wakes,(.pure [0] zbk))]) ze4 [0] ID.wattlelaw15_UpdateRows [.int .i64 a0,.sl tga1 a1,.sl tga2 a2]=sif (D.nohL [.int .i64 a0,.sl tga1 a1,.sl tga2 a2]=true) (zd7 zbI zbd zbK zbc zaE zac zaw zcU zbU zaL za9 zdl zbk a0 (D.lentL a1) (D.lentL a2)):=by kernel_rfl
theorem zil (tga1 tga2:Tag) (a0:Int) (a1 a2:List D):zd6 [.int .i64 a0,.sl tga1 a1,.sl tga2 a2]=sif (D.nohL [.int .i64 a0,.sl tga1 a1,.sl tga2 a2]=true) (zd7 zbI zbd zbK zbc zaE zac zaw zcU zbU zaL za9 zdl zbk a0 (D.lentL a1) (D.lentL a2)):=zjR zbI zbd zbK zbc zaE zac zaw zcU zbU zaL za9 zdl zbk tga1 tga2 a0 a1 a2
end Wf

namespace Wf
open Go Go.RowKit Go.Proofs
set_option linter.unusedSimpArgs false
set_option linter.unusedVariables false
set_option maxHeartbeats 4000000
theorem zE6 {B:Ben} {live:List Bool} {g:Geo} {Dr:Nat→List (List Int)} (h:Std B live g Dr) (hk:g.ok=true) (hlost:(B.lostN live g:Int)≤g.l - 4) (hup:∀ d:Int,0≤d→d < g.d→B.up live d=true) {r:Nat} (hr:r < 16):
  zrg g (r:Int) (zcC g (r:Int) (Dr r))=some (Dr r):=by
 obtain ⟨hR,hs⟩:=h r hr
 have hf:zcL g (r:Int)=true:=zbz.2 ⟨hk,by omega,by omega⟩
 have:=zsQ hf hR hs;rw [if_pos hlost] at this
 have e:B.secs live (r:Int) g.d.toNat=zcC g (r:Int) (Dr r):=by
  unfold Ben.secs zcC
  refine List.map_congr_left fun d hd=>?_
  have:=List.mem_range.1 hd
  rw [if_pos (hup d (by omega) (by omega)),hs d (by omega) (by omega) (hup d (by omega) (by omega))]
 rwa [e] at this
theorem update_rows (a0:Int) (l m:List Int) (tg tg':Tag):zd6 [.int .i64 a0,.sl tg (intL l),.sl tg' (intL m)]=some (.bool true):=by
 rw [zil,zjl,zjl]
 rw [zaa (by simp [D.nohL,D.noh,zFC])]
 unfold zd7;have hgood:=zEo a0;have hk:=zCi a0;generalize zyA a0=g at*;have hgD:g.D=.agg [.int .i64 g.l,.int .i64 g.d,.int .i64 g.c]:=rfl;rw [hgD] at hgood;have hdd:=ok_d hk;have hll:=zez.1 hk;have hwd:=zca hk
 obtain ⟨n,hn⟩:∃ n:Nat,(n:Int)=g.d:=⟨g.d.toNat,by omega⟩
 have hfr:=zCA [] [] hk (n:=n) (by omega) (by omega) .lent l
 simp only [List.length_nil] at hfr;obtain ⟨U,V,idx,B0,hfil,hB0,hS0,hw0,hc0,_⟩:=hfr;rw [hn] at hfil
 have hlive:=zGs (d:=n) (by omega) (by omega)
 rw [hn] at hlive
 have hlv:∀ (C:Ben),C.n=n→(∀ e:Int,C.failed e=false)→∀ e:Int,0≤e→C.up (List.replicate n true) e=decide (e < n):=fun C hC hf e e0=>by rw [zER hC e0,hf e]; simp
 generalize hlve:List.replicate n true=live at*
 have hlost:∀ (C:Ben),C.n=n→(∀ e:Int,C.failed e=false)→(C.lostN live g:Int)≤g.l - 4:=fun C hC hf=>by
  have:=zGA (B:=C) (live:=live) (g:=g) (d:= -1) (by omega) fun e e0 e1 he=>by rw [hlv C hC hf e e0]; simp; omega
  omega
 have hstd0:Std B0 live g fun r=>rowL g l r:=fun r hr=>⟨zxk hk l r,fun e e0 e1 hu=>by
  have:=hc0 e r e0 e1 (by omega) (by omega) (by omega); rw [Int.toNat_natCast] at this; exact this⟩
 have hcap:zaE [.agg [.int .i64 g.l,.int .i64 g.d,.int .i64 g.c]]=some (.int .i64 g.cap):=zBE g
 have hca:1≤g.cap∧g.cap < 1000:=by rw [zBn]; omega
 have hof:=zIu g;have hww:=zIH;rw [hgood,zab,zeJ,zb7,zb7,zb7,zch];dsimp only;rw [hfil,zab];dsimp only
 rw [zaP,zbV,zbV,zaP,zaa (by rfl),zwh,zan,hlive,zab,zbl,zaa rfl]
 have hll0:(live.map D.bool).length=live.length:=by simp
 refine zfG (fun a=>10 - a.1.2.2.2.2.1.toNat) (fun _=>some (D.bool true)) (fun a=>∃ (k:Nat) (U V:Tb) (B:Ben) (Dr:Nat→List (List Int)),k≤6∧Run U V 0 idx B n (35*(k:Int))∧(∀ e,B.failed e=false)∧Std B live g Dr∧
  a=((intL m,(g.l,g.d,g.c,PUnit.unit),D.h kB 0 0,live.map D.bool,(k:Int),PUnit.unit),P0 U 0 idx B,P1 V idx B,PUnit.unit)) ?_ ⟨0,U,V,B0,_,by omega,hB0.mono (by omega),hS0.failed,hstd0,rfl⟩ (by simp)
 clear hfil hlive hB0 hS0 hw0 hc0 hstd0 hgood
 rintro again _ ⟨k,U,V,B,Dr,hk6,hR,hfl,hS,rfl⟩ ih
 dsimp only;rw [zc8]
 by_cases hkl:k < m.length
 rotate_left
 ·rw [zfN (by omega),hww,zab,zbe]
 rw [zlq (by omega)]
 by_cases hk5:k < 6
 rotate_left
 ·rw [zfN (by omega),hww,zab,zbe]
 rw [zlq (by omega)]
 have hg:m[k]? =some m[k]:=List.getElem?_eq_getElem hkl
 obtain ⟨U',V',b2,idx2,hcl,hR',hA⟩:=hR.clone (by omega)
 have hwi:=zxb m[k] g.cap (by omega) (by omega)
 have w0:=Int.emod_nonneg m[k] (show g.cap≠0 by omega)
 have w1:=Int.emod_lt_of_pos m[k] (show 0 < g.cap by omega)
 generalize m[k] % g.cap=at' at*;have hsec:=zkA (IntKind.i64.wrap (m[k].tdiv 3));have hsx:=zxg (IntKind.i64.wrap (m[k].tdiv 3));generalize secN (IntKind.i64.wrap (m[k].tdiv 3))=x at*;have hS':Std B.clean live g Dr:=hS;have hfl':∀ e,B.clean.failed e=false:=hfl
 have hnof:B.clean.NoF live:=fun d _ _ _=>hfl' d
 obtain ⟨B2,hdo,hR2,hU⟩:=hR'.udo (by omega) .lent hnof hS' (hlost _ hR'.num hfl') w0 w1 .lent hsx (seq:=(k:Int)+1) (by omega) (by omega)
 have hfl2:∀ e,B2.failed e=false:=fun e=>(hU.like.2 e).trans (hfl' e)
 have hup2:=hlv B2 hR2.num hfl2;have hup0:=hlv B.clean hR'.num hfl'
 have wk:IntKind.i64.wrap ((k:Int)+1)=(k:Int)+1:=zat (by omega) (by omega)
 have hofp:ofP g at'=(zc1 g (rowG g at') (zcY g at'),rowG g at',true):=if_pos ⟨w0,w1⟩;rw [hcl,zab];dsimp only
 rw [zaP,zbV,zbV,zaP,zaa (by rfl),zaa (by omega),Int.toNat_natCast,zak (zmh hg),zaX,hcap,zab,zaX,hwi,zab,zaX,zwh,zan,zaa (by omega),zak (zmh hg),zaX,zap,hsec,zab,zbl,
  zap,wk,zaa (by omega),zaa (by omega),zbW,zbW,hdo,zab]
 dsimp only;rw [zaP,zbV,zbV,zaP,zaX,zha rfl,hof,zab,zdm,zci,zci,zci,zch];dsimp only;rw [zaX,zaX,zbe,zaa rfl]
 let st:Nat→(List D×(Int×Int×Int×PUnit)×D×List D×Int×D×Int×Int×PUnit)×List (List D)×List (List D)×PUnit:=fun s=>((intL m,(g.l,g.d,g.c,PUnit.unit),D.h kB 0 0,live.map D.bool,(k:Int),D.h kB b2 0,(ofP g at').2.1,(s:Int),PUnit.unit),P0 U' 0 idx B2,P1 V' idx B2,PUnit.unit)
 show zb1 _ (st 0)=_
 refine zb8 st 16 (by omega) ?_ ?_
 ·intro again2 s hs;dsimp only [st]
  have hs2:(s:Int) < 16:=by omega
  have w3:IntKind.i64.wrap (36+(s:Int))=36+(s:Int):=zat (by omega) (by omega)
  have hfi:zcL g (s:Int)=true:=zbz.2 ⟨hk,by omega,by omega⟩
  obtain ⟨hRw,hst⟩:=hU.std s hs;obtain ⟨hRw0,hst0⟩:=hS' s hs;rw [decide_eq_true hs2,zaJ,zaa rfl]
  let su:Nat→(List D×(Int×Int×Int×PUnit)×D×List D×Int×D×Int×Int×List D×Int×PUnit)×List (List D)×List (List D)×PUnit:=fun j=>((intL m,(g.l,g.d,g.c,PUnit.unit),D.h kB 0 0,live.map D.bool,(k:Int),D.h kB b2 0,(ofP g at').2.1,(s:Int),pL (fP ((List.range j).map fun (d:Nat)=>B2.cur d (36+(s:Int)))),(j:Int),PUnit.unit),P0 U' 0 idx B2,P1 V' idx B2,PUnit.unit)
  show zb1 _ (su 0)=_
  refine zb8 su n (by omega) ?_ ?_
  ·intro again3 j hj;dsimp only [su]
   have hj2:(j:Int) < g.d:=by omega
   have hr2:=hR2.bread (by omega) (d:=(j:Int)) (a:=36+(s:Int)) (by omega) (by omega) (hfl2 _) (by omega) (by omega)
   have hrC:=hA.read (by have:=hR'.w; omega) B2 (j:Int) (36+(s:Int))
   rw [zBG (hR'.is (by omega) (by omega)) hR'.down (hfl' _) (by omega) (by omega)] at hrC
   dsimp only at hrC
   have hup:B2.up live (j:Int)=true:=by rw [hup2 _ (by omega)]; simp; omega
   have hup':B.clean.up live (j:Int)=true:=by rw [hup0 _ (by omega)]; simp; omega
   have hc2:=hst (j:Int) (by omega) hj2 hup
   have hsx2:Sec (B2.cur (j:Int) (36+(s:Int))):=by rw [hc2]; exact zyE hfi hRw (by omega) hj2
   have hl2:=hsx2.len
   have hpl:(pL (fP ((List.range j).map fun (d:Nat)=>B2.cur d (36+(s:Int))))).length=j:=by simp
   have hsn:pL (fP ((List.range (j+1)).map fun (d:Nat)=>B2.cur d (36+(s:Int))))=pL (fP ((List.range j).map fun (d:Nat)=>B2.cur d (36+(s:Int))))++[D.sl Tag.fresh (uL (B2.cur (j:Int) (36+(s:Int))))]:=by
    rw [List.range_succ,List.map_append]; exact (zxh _ _).symm
   rw [decide_eq_true hj2,zaJ,zap,w3,hr2,zab];dsimp only;rw [zaP,zaP,zdm,zc5];dsimp only;rw [zbl,zaX,zap,hrC,zab];dsimp only;rw [zaP,zaP,zdm,zc5];dsimp only;rw [zbl,zaX,zha rfl,hsn]
   have hlast:∀ q:Option D,q=again3 ((intL m,(g.l,g.d,g.c,PUnit.unit),D.h kB 0 0,live.map D.bool,(k:Int),D.h kB b2 0,(ofP g at').2.1,(s:Int),pL (fP ((List.range j).map fun (d:Nat)=>B2.cur d (36+(s:Int))))++[D.sl Tag.fresh (uL (B2.cur (j:Int) (36+(s:Int))))],((j+1:Nat):Int),PUnit.unit),P0 U' 0 idx B2,P1 V' idx B2,PUnit.unit)→q=_:=fun q h=>h
   by_cases hrow:(s:Int)=(ofP g at').2.1
   ·rw [zha hrow,zaa (by omega),hpl,zaa (by omega),zaa rfl,zap,zdq (by omega),zaa rfl,zbW,zaa (by rw [List.length_append,hpl]; rfl)]
   ·have hsame:=zEq .lent .lent (B2.cur (j:Int) (36+(s:Int))) (B.clean.cur (j:Int) (36+(s:Int))) (by omega)
    have heq:B2.cur (j:Int) (36+(s:Int))=B.clean.cur (j:Int) (36+(s:Int)):=hU.row (j:Int) (36+(s:Int)) (by omega) (by omega) (by omega) (by rw [hofp] at hrow; dsimp only at hrow; omega)
    rw [decide_eq_true heq] at hsame
    rw [zoN hrow,zaa (by omega),zaa (by omega),zbW,zbW,hsame,zab,zbe,Bool.not_true,zan,zaa (by omega),hpl,zaa (by omega),zaa rfl,zap,zdq (by omega),zaa rfl,zaa (by rw [List.length_append,hpl]; rfl)]
  ·intro again3;dsimp only [su]
   have hps:((fP ((List.range n).map fun (d:Nat)=>B2.cur d (36+(s:Int)))).map (·.2))=zcC g (s:Int) (setRow Dr g at' x s):=by
    rw [zpJ];unfold zcC
    rw [show g.d.toNat=n by omega]
    refine List.map_congr_left fun d hd=>?_
    have:=List.mem_range.1 hd
    exact hst d (by omega) (by omega) (by rw [hup2 _ (by omega)]; simp; omega)
   have htk:=zE6 hU.std hk (hlost _ hR2.num hfl2) (fun d d0 d1=>by rw [hup2 _ d0]; simp; omega) hs
   have hright:=zE5 hfi hRw .lent hps htk
   rw [zfN (by omega),zaa (by omega),zbW,hright,zab,zbe,Bool.not_true,zan,zap,zdq (by omega),zaa rfl]
 ·intro again2;dsimp only [st]
  rw [zfN (by omega),zap,wk,zaa rfl]
  exact ih _ ⟨k+1,U',V',B2,_,by omega,by
   have:=hR2; rw [show (35*(k:Int)+35)=35*((k+1:Nat):Int) by omega] at this; exact this,hfl2,hU.std,rfl⟩ (by dsimp only; omega)
end Wf

