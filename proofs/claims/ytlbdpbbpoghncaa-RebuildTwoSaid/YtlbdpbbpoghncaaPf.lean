/- A part of the proof: lemmas that the law's row leans on. -/
import Derived.Test.YtlbdpbbpoghncaaPe
import Derived.Test.YtlbdpbbpoghncaaPd
set_option linter.all false
namespace Wf
open Go Go.RowKit Go.Proofs
set_option linter.unusedSimpArgs false
set_option linter.unusedVariables false
theorem gf_double (a:Int):za2 [.int .u8 a]=some (.int .u8 (dbl a)):=by
  rw [zrI]
  unfold zmt dbl
  by_cases h:128≤a
  · simp [h]
  · simp [h]
theorem zFG (a b:Int) (h0:0≤b) (h1:b < 256):zer [.int .u8 a,.int .u8 b]=some (.int .u8 (mul8 a b)):=by
  rw [zwQ]
  unfold ztY
  refine zk4 (fun x=>x.1.2.1.toNat) (fun _=>some (D.int .u8 (mul8 a b)))
    (fun x=>∃ (n:Nat) (a' b' o:Int),0≤b'∧b' < 2 ^ n∧n≤8∧mulA n a' b' o=mul8 a b∧x=((a',b',o,PUnit.unit),PUnit.unit)) ?_ ⟨8,a,b,0,h0,h1,Nat.le_refl _,rfl,rfl⟩ (by simp; omega)
  rintro again _ ⟨n,a',b',o,p0,p1,p2,p3,rfl⟩ hag
  dsimp only
  by_cases hb:b' > 0
  · have hd:decide (b' > 0)=true:=by simp [hb]
    rw [hd,za1,zaJ]
    cases n with
    | zero=>simp at p1; omega
    | succ n=>
      have hdiv:b'.fdiv 2=b' / 2:=Int.fdiv_eq_ediv_of_nonneg _ (by omega)
      have hlt:b' / 2 < 2 ^ n:=by
        have:(2:Int) ^ (n+1)=2 ^ n*2:=Int.pow_succ ..
        omega
      by_cases hone:bits .and .u8 b' 1=1
      · have hbo:(bits .and .u8 b' 1 == 1)=true:=by simp [hone]
        rw [hbo,za1,zaJ,gf_double,zac,zbe,zaJ,hdiv]
        refine hag _ ⟨n,_,_,_,by omega,hlt,by omega,?_,rfl⟩ (by simp; omega)
        rw [←p3]
        show _=mulA n (dbl a') (b' / 2) (if bits .and .u8 b' 1=1 then xor8 o a' else o)
        rw [if_pos hone]
      · have hbo:(bits .and .u8 b' 1 == 1)=false:=by simp [hone]
        rw [hbo,zas,gf_double,zac,zbe,zaJ,hdiv]
        refine hag _ ⟨n,_,_,_,by omega,hlt,by omega,?_,rfl⟩ (by simp; omega)
        rw [←p3]
        show _=mulA n (dbl a') (b' / 2) (if bits .and .u8 b' 1=1 then xor8 o a' else o)
        rw [if_neg hone]
  · have hd:decide (b' > 0)=false:=by simp [hb]
    have:b'=0:=by omega
    subst this
    rw [hd,zas,←p3,zAm]
theorem zCt {a b:List Int} {k:Nat} {x y:Int} (h1:a[k]? =some x) (h2:b[k]? =some y):(List.zipWith xor8 a b).take (k+1)=(List.zipWith xor8 a b).take k++[xor8 x y]:=by
  rw [List.take_add_one]
  congr 1
  simp [List.getElem?_zipWith,h1,h2]
theorem zhu (t t':Tag) (a b:List Int) (ha:a.length < 100000):zaL [.sl t (uL a),.sl t' (uL b)]=some (.sl .own (uL (addL a b))):=by
  rw [ztZ,zcW,zcW]
  unfold zop addL
  by_cases hl:a.length=b.length
  · have hb:(((uL a).length:Int) != ((uL b).length:Int))=false:=by simp [hl]
    rw [hb,zas,if_pos hl]
    let st:Nat→(List D×List D×List D×Int×Int×PUnit)×PUnit:=fun k=>((uL b,uL ((List.zipWith xor8 a b).take k),uL a,(a.length:Int),(k:Int),PUnit.unit),PUnit.unit)
    have hst:st 0=((uL b,[],uL a,((uL a).length:Int),0,PUnit.unit),PUnit.unit):=by simp [st,uL]
    rw [←hst]
    refine zb6 st a.length ha ?_ ?_
    · intro again k hk
      dsimp only [st]
      have h1:a[k]? =some a[k]:=List.getElem?_eq_getElem hk
      have h2:b[k]? =some (b[k]'(by omega)):=List.getElem?_eq_getElem (by omega)
      have hd:decide ((k:Int) < (a.length:Int))=true:=by simp; omega
      rw [hd,za1,zaa (by omega),zai (by simpa using zjd h1),zbe,zaa (by omega),zai (by simpa using zjd h2),zbe,zaJ,zaa (by simp; omega),zaa (by rfl),zaJ,zam (by omega) (by omega),zaa (by simp)]
      rw [zCt h1 h2,←zAv]
      rfl
    · intro again
      dsimp only [st]
      have hd:decide ((a.length:Int) < (a.length:Int))=false:=by simp
      have ht:(List.zipWith xor8 a b).take a.length=List.zipWith xor8 a b:=List.take_of_length_le (by simp; omega)
      rw [hd,zas,zaa (by rfl),zaa (zgN _),ht]
  · have hb:(((uL a).length:Int) != ((uL b).length:Int))=true:=by simp; omega
    rw [hb,za1,if_neg hl]
    rfl
theorem ziv (t:Tag) (a:List Int) (ha:a.length < 100000) {f:Int} (h0:0≤f) (h1:f < 256):zaI [.sl t (uL a),.int .u8 f]=some (.sl .own (uL (a.map (mul8 · f)))):=by
  rw [zq7,zcW]
  unfold zkp
  let st:Nat→(Int×List D×List D×Int×Int×PUnit)×PUnit:=fun k=>((f,uL ((a.map (mul8 · f)).take k),uL a,(a.length:Int),(k:Int),PUnit.unit),PUnit.unit)
  have hst:st 0=((f,[],uL a,((uL a).length:Int),0,PUnit.unit),PUnit.unit):=by simp [st,uL]
  rw [←hst]
  refine zb6 st a.length ha ?_ ?_
  · intro again k hk
    dsimp only [st]
    have h2:a[k]? =some a[k]:=List.getElem?_eq_getElem hk
    have hd:decide ((k:Int) < (a.length:Int))=true:=by simp; omega
    rw [hd,za1,zaa (by omega),zai (by simpa using zjd h2),zbe,zFG _ _ h0 h1,zac,zbe,zaa (by simp; omega),zaa (by rfl),zaJ,zam (by omega) (by omega),zaa (by simp)]
    have:(a.map (mul8 · f)).take (k+1)=(a.map (mul8 · f)).take k++[mul8 a[k] f]:=by rw [List.take_add_one]; simp [h2]
    rw [this,←zAv]
    rfl
  · intro again
    dsimp only [st]
    have hd:decide ((a.length:Int) < (a.length:Int))=false:=by simp
    have ht:(a.map (mul8 · f)).take a.length=a.map (mul8 · f):=List.take_of_length_le (by simp)
    rw [hd,zas,zaa (by rfl),zaa (zgN _),ht]
abbrev Part:=Tag×List Int
def pL (ps:List Part):List D:=ps.map fun x=>.sl x.1 (uL x.2)
def zbW (t:Tag) (l:List Int):Tag:=match t,l with
  | .nil,_=>.nil
  | .nn,[]=>.nn
  | .nul,[]=>.nul
  | _,_=>.lent
theorem zEk (t:Tag) (l:List Int):D.lent (.sl t (uL l))=.sl (zbW t l) (uL l):=by
  have h:=zcW l
  cases l with
  | nil=>cases t<;>rfl
  | cons n l=>
    have e:uL (n::l)=.int .u8 n::uL l:=rfl
    rw [e] at h ⊢
    cases t<;>simp only [D.lent,h,zbW]<;>simp [D.lentL,D.lent,zcW]
theorem zcZ (ps:List Part):D.lentL (pL ps)=pL (ps.map fun x=>(zbW x.1 x.2,x.2)):=by
  unfold pL
  rw [zqi,List.map_map,List.map_map]
  apply List.map_congr_left
  intro x _
  exact zEk x.1 x.2
@[simp] theorem zvP (ps:List Part):(pL ps).length=ps.length:=by simp [pL]
theorem zcJ {ps:List Part} {k:Nat} {x:Part} (h:ps[k]? =some x):(pL ps)[k]? =some (.sl x.1 (uL x.2)):=by simp [pL,h]
theorem zAX (ps:List Part) (t:Tag) (l:List Int):pL ps++[.sl t (uL l)]=pL (ps++[(t,l)]):=by simp [pL]
theorem zpb (ps:List Part) (i:Nat) (t:Tag) (l:List Int):(pL ps).set i (.sl t (uL l))=pL (ps.set i (t,l)):=by simp [pL,List.map_set]
def Part.free (x:Part):Bool:=x.1=.fresh || x.1=.full || x.1=.nil
theorem zkQ {ps:List Part} (h:∀ x∈ps,x.free=true):(pL ps).all D.free=true:=by
  unfold pL
  rw [List.all_map,List.all_eq_true]
  intro x hx
  have:=h x hx
  obtain ⟨t,l⟩:=x
  cases t<;>first | (exact ztO l) | (exact absurd this (by simp [Part.free]))
theorem zvQ (k:Nat) (hk:k < 255):zaU [.int .i64 k]=some (.int .u8 (pow8 k)):=by
  rw [zq8]
  unfold zpM
  have e1:Int.tmod (k:Int) 255=k:=by rw [Int.tmod_eq_emod_of_nonneg (by omega),Int.emod_eq_of_lt (by omega) (by omega)]
  have e2:Int.tmod ((k:Int)+255) 255=k:=by
    rw [Int.tmod_eq_emod_of_nonneg (by omega),Int.add_emod_right,Int.emod_eq_of_lt (by omega) (by omega)]
  rw [zaJ,e1,zaJ,zam (by omega) (by omega),zaJ,e2]
  refine zb6 (fun j=>((pow8 j,(k:Int),(j:Int),PUnit.unit),PUnit.unit)) k (by omega) ?_ ?_
  · intro again j hj
    dsimp only
    have hd:decide ((j:Int) < (k:Int))=true:=by simp; omega
    rw [hd,za1,gf_double,zac,zbe,zaJ,zam (by omega) (by omega)]
    rfl
  · intro again
    have hd:decide ((k:Int) < (k:Int))=false:=by simp
    dsimp only
    rw [hd,zas]
theorem zAY (tg:Tag) {ps:List Part} {n:Nat} (hn:n < 100000) (h0:0 < ps.length) (h1:ps.length < 255) (h:∀ x∈ps,x.2.length=n):
    zbT [.sl tg (pL ps)]=some (.sl .own (uL (sumP n (ps.map (·.2))))):=by
  rw [zwR,zcZ]
  unfold zt3
  have hsum:∀ {qs:List Part},0 < qs.length→qs.length < 255→(∀ x∈qs,x.2.length=n)→∀ tg,zbJ [.sl tg (pL qs),.fn ID.synd_P_1 [] []]=some (.sl .own (uL (sumP n (qs.map (·.2))))):=by
    intro qs h0 h1 h tg
    rw [zpq,zcZ]
    have hl':∀ x∈(qs.map fun x=>(zbW x.1 x.2,x.2)),x.2.length=n:=by
      intro x hx; obtain ⟨y,hy,rfl⟩:=List.mem_map.1 hx; exact h y hy
    have hm:(qs.map fun x=>(zbW x.1 x.2,x.2)).map (·.2)=qs.map (·.2):=by rw [List.map_map]; rfl
    rw [←hm]
    have hlen:(qs.map fun x=>(zbW x.1 x.2,x.2)).length=qs.length:=by simp
    rw [←hlen] at h0 h1
    generalize (qs.map fun x=>(zbW x.1 x.2,x.2))=rs at*
    clear hm hlen h qs
    unfold ziS
    have hb:(((pL rs).length:Int) == 0)=false:=by simp; intro e; rw [e] at h0; simp at h0
    obtain ⟨x0,hx0⟩:∃ x,rs[0]? =some x:=⟨_,List.getElem?_eq_getElem h0⟩
    have hx0l:=hl' x0 (List.mem_of_getElem? hx0)
    rw [hb,zas,zai (zcJ hx0),zeU,zaa (by rfl),zdF,hx0l,zaa (by omega),zaa (by omega),zaa (by simp),Int.toNat_natCast,zqJ]
    have hls:∀ l∈rs.map (·.2),l.length=n:=by intro l hl; obtain ⟨y,hy,rfl⟩:=List.mem_map.1 hl; exact hl' y hy
    let st:Nat→(List D×List D×Int×Int×PUnit)×PUnit:=fun k=>((uL (sumK (fun _=>1) n (rs.map (·.2)) k),pL rs,((pL rs).length:Int),(k:Int),PUnit.unit),PUnit.unit)
    have hst:st 0=((uL (List.replicate n 0),pL rs,((pL rs).length:Int),0,PUnit.unit),PUnit.unit):=rfl
    rw [←hst]
    refine zb6 st rs.length (by omega) ?_ ?_
    · intro again k hk
      dsimp only [st]
      obtain ⟨x,hx⟩:∃ x,rs[k]? =some x:=⟨_,List.getElem?_eq_getElem hk⟩
      have hxl:=hl' x (List.mem_of_getElem? hx)
      have hd:decide ((k:Int) < ((pL rs).length:Int))=true:=by simp; omega
      have hsl:=zk6 (f:=fun _=>1) hls (k:=k) (by simp; omega)
      rw [hd,za1,zaa (by omega),zai (by simpa using zcJ hx),zeU,zaa (by omega)]
      have hb2:(((uL x.2).length:Int) != ((uL (sumK (fun _=>1) n (rs.map (·.2)) k)).length:Int))=false:=by simp [hxl,hsl]
      have hone:zbv [.int .i64 (k:Int)]=some (.int .u8 1):=by rw [zt0]; rfl
      rw [hb2,zas,hone,zac,zbe,ziv _ _ (by omega) (by omega) (by omega),zac,zbF,zaa (by omega),zaa (by omega),zdd,zdd,zhu _ _ _ _ (by omega),zac,zbF,zaJ,
        zam (by omega) (by omega),zaa (by rfl)]
      have he:addL (sumK (fun _=>1) n (rs.map (·.2)) k) (x.2.map (mul8 · 1))=sumK (fun _=>1) n (rs.map (·.2)) (k+1):=by
        unfold addL
        rw [if_pos (by simp [hsl,hxl])]
        have:(rs.map (·.2)).getD k []=x.2:=by simp [List.getD_eq_getElem?_getD,hx]
        simp only [sumK,this]
      rw [he]
      rfl
    · intro again
      dsimp only [st]
      have hd:decide ((rs.length:Int) < ((pL rs).length:Int))=false:=by simp
      rw [hd,zas,zaa (by rfl),zaa (zgN _)]
      simp [sumP]
  rw [hsum (by simpa using h0) (by simpa using h1) (by intro x hx; obtain ⟨y,hy,rfl⟩:=List.mem_map.1 hx; exact h y hy),zac,zbF,zaa (by rfl),zaa (zgN _),List.map_map]
  rfl
theorem zAZ (tg:Tag) {ps:List Part} {n:Nat} (hn:n < 100000) (h0:0 < ps.length) (h1:ps.length < 255) (h:∀ x∈ps,x.2.length=n):
    zbU [.sl tg (pL ps)]=some (.sl .own (uL (sumQ n (ps.map (·.2))))):=by
  rw [zwS,zcZ]
  unfold zt4
  have hsum:∀ {qs:List Part},0 < qs.length→qs.length < 255→(∀ x∈qs,x.2.length=n)→∀ tg,zbJ [.sl tg (pL qs),.fn ID.gf_Pow [] []]=some (.sl .own (uL (sumQ n (qs.map (·.2))))):=by
    intro qs h0 h1 h tg
    rw [zpr,zcZ]
    have hl':∀ x∈(qs.map fun x=>(zbW x.1 x.2,x.2)),x.2.length=n:=by
      intro x hx; obtain ⟨y,hy,rfl⟩:=List.mem_map.1 hx; exact h y hy
    have hm:(qs.map fun x=>(zbW x.1 x.2,x.2)).map (·.2)=qs.map (·.2):=by rw [List.map_map]; rfl
    rw [←hm]
    have hlen:(qs.map fun x=>(zbW x.1 x.2,x.2)).length=qs.length:=by simp
    rw [←hlen] at h0 h1
    generalize (qs.map fun x=>(zbW x.1 x.2,x.2))=rs at*
    clear hm hlen h qs
    unfold ziT
    have hb:(((pL rs).length:Int) == 0)=false:=by simp; intro e; rw [e] at h0; simp at h0
    obtain ⟨x0,hx0⟩:∃ x,rs[0]? =some x:=⟨_,List.getElem?_eq_getElem h0⟩
    have hx0l:=hl' x0 (List.mem_of_getElem? hx0)
    rw [hb,zas,zai (zcJ hx0),zeU,zaa (by rfl),zdF,hx0l,zaa (by omega),zaa (by omega),zaa (by simp),Int.toNat_natCast,zqJ]
    have hls:∀ l∈rs.map (·.2),l.length=n:=by intro l hl; obtain ⟨y,hy,rfl⟩:=List.mem_map.1 hl; exact hl' y hy
    let st:Nat→(List D×List D×Int×Int×PUnit)×PUnit:=fun k=>((uL (sumK pow8 n (rs.map (·.2)) k),pL rs,((pL rs).length:Int),(k:Int),PUnit.unit),PUnit.unit)
    have hst:st 0=((uL (List.replicate n 0),pL rs,((pL rs).length:Int),0,PUnit.unit),PUnit.unit):=rfl
    rw [←hst]
    refine zb6 st rs.length (by omega) ?_ ?_
    · intro again k hk
      dsimp only [st]
      obtain ⟨x,hx⟩:∃ x,rs[k]? =some x:=⟨_,List.getElem?_eq_getElem hk⟩
      have hxl:=hl' x (List.mem_of_getElem? hx)
      have hd:decide ((k:Int) < ((pL rs).length:Int))=true:=by simp; omega
      have hsl:=zk6 (f:=pow8) hls (k:=k) (by simp; omega)
      rw [hd,za1,zaa (by omega),zai (by simpa using zcJ hx),zeU,zaa (by omega)]
      have hb2:(((uL x.2).length:Int) != ((uL (sumK pow8 n (rs.map (·.2)) k)).length:Int))=false:=by simp [hxl,hsl]
      have hone:=zvQ k (by omega)
      rw [hb2,zas,hone,zac,zbe,ziv _ _ (by omega) (zh7 k).1 (zh7 k).2,zac,zbF,zaa (by omega),zaa (by omega),zdd,zdd,zhu _ _ _ _ (by omega),zac,zbF,zaJ,
        zam (by omega) (by omega),zaa (by rfl)]
      have he:addL (sumK pow8 n (rs.map (·.2)) k) (x.2.map (mul8 · (pow8 k)))=sumK pow8 n (rs.map (·.2)) (k+1):=by
        unfold addL
        rw [if_pos (by simp [hsl,hxl])]
        have:(rs.map (·.2)).getD k []=x.2:=by simp [List.getD_eq_getElem?_getD,hx]
        simp only [sumK,this]
      rw [he]
      rfl
    · intro again
      dsimp only [st]
      have hd:decide ((rs.length:Int) < ((pL rs).length:Int))=false:=by simp
      rw [hd,zas,zaa (by rfl),zaa (zgN _)]
      simp [sumQ]
  rw [hsum (by simpa using h0) (by simpa using h1) (by intro x hx; obtain ⟨y,hy,rfl⟩:=List.mem_map.1 hx; exact h y hy),zac,zbF,zaa (by rfl),zaa (zgN _),List.map_map]
  rfl
end Wf

namespace Wf
open Go Go.RowKit Go.Proofs
set_option linter.unusedSimpArgs false
set_option linter.unusedVariables false
theorem zA0 (l:List Int):(intL l).all D.free=true:=by simp [intL,D.free]
theorem zA1 (l:List Int) (n:Int):intL l++[.int .i64 n]=intL (l++[n]):=by simp [intL]
def zw0 (ls:List (List Int)) (k:Nat):List Int:=((List.range k).filter fun i=>(ls.getD i []).isEmpty).map Int.ofNat
def miss (ls:List (List Int)):List Int:=zw0 ls ls.length
theorem zy1 (ls:List (List Int)) (k:Nat):zw0 ls (k+1)=zw0 ls k++if (ls.getD k []).isEmpty then [(k:Int)] else []:=by
  unfold zw0
  rw [List.range_succ,List.filter_append,List.map_append]
  congr 1
  by_cases h:(ls.getD k []).isEmpty=true
  · rw [if_pos h,List.filter_cons_of_pos (p:=fun i=>(ls.getD i []).isEmpty) h]; rfl
  · rw [if_neg h,List.filter_cons_of_neg (p:=fun i=>(ls.getD i []).isEmpty) h]; rfl
theorem zA2 (ls:List (List Int)) (k:Nat):(zw0 ls k).length≤k:=by
  unfold zw0
  rw [List.length_map]
  exact Nat.le_trans (List.length_filter_le _ _) (by simp)
theorem znN (tg:Tag) (ps:List Part) (hn:ps.length < 100000):zbA [.sl tg (pL ps)]=some (.sl .own (intL (miss (ps.map (·.2))))):=by
  rw [znr,zcZ]
  have hm:(ps.map fun x=>(zbW x.1 x.2,x.2)).map (·.2)=ps.map (·.2):=by rw [List.map_map]; rfl
  have hlen:(ps.map fun x=>(zbW x.1 x.2,x.2)).length=ps.length:=by simp
  rw [←hm]
  rw [←hlen] at hn
  generalize (ps.map fun x=>(zbW x.1 x.2,x.2))=rs at*
  unfold zgU
  let st:Nat→(List D×List D×Int×Int×PUnit)×PUnit:=fun k=>((intL (zw0 (rs.map (·.2)) k),pL rs,((pL rs).length:Int),(k:Int),PUnit.unit),PUnit.unit)
  have hst:st 0=(([],pL rs,((pL rs).length:Int),0,PUnit.unit),PUnit.unit):=rfl
  rw [←hst]
  refine zb6 st rs.length (by omega) ?_ ?_
  · intro again k hk
    dsimp only [st]
    obtain ⟨x,hx⟩:∃ x,rs[k]? =some x:=⟨_,List.getElem?_eq_getElem hk⟩
    have hd:decide ((k:Int) < ((pL rs).length:Int))=true:=by simp; omega
    have hk2:=zA2 (rs.map (·.2)) k
    have hgd:(rs.map (·.2)).getD k []=x.2:=by simp [List.getD_eq_getElem?_getD,hx]
    rw [hd,za1,zaa (by omega),zai (by simpa using zcJ hx),zeU,zy1,hgd]
    by_cases he:x.2=[]
    · have hb:(((uL x.2).length:Int) == 0)=true:=by simp [he]
      rw [hb,za1,zaa (by rw [zgp]; omega),zaa (by rfl),zaJ,zam (by omega) (by omega),zaa (by simp),zA1,he]
      rfl
    · have hb:(((uL x.2).length:Int) == 0)=false:=by simp; omega
      have hb2:x.2.isEmpty=false:=by simp [he]
      rw [hb,zas,zaJ,zam (by omega) (by omega),zaa (by rfl),hb2]
      simp
  · intro again
    dsimp only [st]
    have hd:decide ((rs.length:Int) < ((pL rs).length:Int))=false:=by simp
    rw [hd,zas,zaa (by rfl),zaa (zA0 _)]
    simp [miss]
theorem zGr (t:Tag) (l:List Int) (n:Int):zaE [.sl t (uL l),.at_ (.int .i64 n)]=some (.bool (!fitS n l)):=by
  rw [zom,zcW]
  unfold zhE fitS
  cases l with
  | nil=>simp
  | cons a l=>
    have hd:decide (((uL (a::l)).length:Int) > 0)=true:=by simp
    rw [hd,za1]
    simp [bne]
    rfl
theorem zrV (tg:Tag) (ps:List Part) (hn:ps.length < 100000) (n:Int):
    ∃ r,zah [.sl tg (pL ps),.fn ID.erase_fits_1 [] [.at_ (.int .i64 n)]]=some r∧∃ i:Int,r=.int .i64 i∧decide (i≥0)= !(ps.all fun x=>fitS n x.2):=by
  rw [zef,zcZ]
  have hm:(ps.all fun x=>fitS n x.2)=((ps.map fun x=>(zbW x.1 x.2,x.2)).all fun x=>fitS n x.2):=by rw [List.all_map]; rfl
  have hlen:(ps.map fun x=>(zbW x.1 x.2,x.2)).length=ps.length:=by simp
  rw [hm]
  rw [←hlen] at hn
  generalize (ps.map fun x=>(zbW x.1 x.2,x.2))=rs at*
  unfold zce
  refine zxI (fun a=>(rs.length:Nat) - a.1.2.2.2.1.toNat) (fun r=>∃ i:Int,r=D.int .i64 i∧decide (i≥0)= !(rs.all fun x=>fitS n x.2))
    (fun a=>∃ k:Nat,k≤rs.length∧((rs.take k).all fun x=>fitS n x.2)=true∧a=((pL rs,n,(rs.length:Int),(k:Int),PUnit.unit),PUnit.unit)) ?_ ⟨0,by omega,by simp,by rw [zvP]; rfl⟩ (by simp; omega)
  rintro again _ ⟨k,hk,he,rfl⟩ hag
  dsimp only
  by_cases hkm:k < rs.length
  · obtain ⟨x,hx⟩:∃ x,rs[k]? =some x:=⟨_,List.getElem?_eq_getElem hkm⟩
    have hd:decide ((k:Int) < (rs.length:Int))=true:=by simp; omega
    rw [hd,za1,zaa (by omega),zai (by simpa using zcJ hx),zeU,zGr,zac,zcr]
    cases hf:fitS n x.2
    · refine ⟨_,rfl,_,rfl,?_⟩
      have:(rs.all fun x=>fitS n x.2)=false:=by
        rw [List.all_eq_false]
        exact ⟨x,List.mem_of_getElem? hx,by simp [hf]⟩
      rw [this]
      simp
    · simp only [Bool.not_true,zas,zaJ]
      rw [zam (by omega) (by omega)]
      refine hag _ ⟨k+1,by omega,?_,rfl⟩ (by simp; omega)
      rw [List.take_add_one,hx,List.all_append,he]
      simp [hf]
  · have hd:decide ((k:Int) < (rs.length:Int))=false:=by simp; omega
    rw [hd,zas]
    refine ⟨_,rfl,_,rfl,?_⟩
    rw [List.take_of_length_le (by omega)] at he
    rw [he]
    rfl
theorem erase_fits (tg:Tag) (ps:List Part) (hn:ps.length < 100000) (n:Int):zb4 [.int .i64 n,.sl tg (pL ps)]=some (.bool (ps.all fun x=>fitS n x.2)):=by
  rw [zq5,zcZ]
  have hm:(ps.all fun x=>fitS n x.2)=((ps.map fun x=>(zbW x.1 x.2,x.2)).all fun x=>fitS n x.2):=by rw [List.all_map]; rfl
  have hlen:(ps.map fun x=>(zbW x.1 x.2,x.2)).length=ps.length:=by simp
  rw [hm]
  rw [←hlen] at hn
  generalize (ps.map fun x=>(zbW x.1 x.2,x.2))=rs at*
  unfold zko
  have:zaf [.sl .lent (pL rs),.fn ID.erase_fits_1 [] [.at_ (.int .i64 n)]]=some (.bool (!(rs.all fun x=>fitS n x.2))):=by
    rw [zdJ,zcZ]
    have hm:(rs.all fun x=>fitS n x.2)=((rs.map fun x=>(zbW x.1 x.2,x.2)).all fun x=>fitS n x.2):=by rw [List.all_map]; rfl
    have hlen:(rs.map fun x=>(zbW x.1 x.2,x.2)).length=rs.length:=by simp
    rw [hm]
    rw [←hlen] at hn
    generalize (rs.map fun x=>(zbW x.1 x.2,x.2))=qs at*
    unfold zb2
    obtain ⟨r,h1,i,rfl,h2⟩:=zrV .lent qs hn n
    rw [h1,zac,zbe,h2]
  rw [this,zac,zcr,Bool.not_not]
theorem zEl {l:List D} {n:Nat} (h:l.length=n):cut 0 n l=l:=by subst h; exact zdd l
theorem erase_filled (n:Nat) (hn0:n < 100000) (tg:Tag) (ps:List Part) (hn:ps.length < 100000):zbM [.int .i64 n,.sl tg (pL ps)]=some (.sl .own (pL (ps.map fun x=>(Tag.fresh,zjo n x.2)))):=by
  rw [zoo,zcZ]
  have hm:(ps.map fun x=>(Tag.fresh,zjo n x.2))=((ps.map fun x=>(zbW x.1 x.2,x.2)).map fun x=>(Tag.fresh,zjo n x.2)):=by rw [List.map_map]; rfl
  have hlen:(ps.map fun x=>(zbW x.1 x.2,x.2)).length=ps.length:=by simp
  rw [hm]
  rw [←hlen] at hn
  generalize (ps.map fun x=>(zbW x.1 x.2,x.2))=rs at*
  unfold zhF
  let st:Nat→(Int×List D×List D×Int×Int×PUnit)×PUnit:=fun k=>(((n:Int),pL ((rs.take k).map fun x=>(Tag.fresh,zjo n x.2)),pL rs,((pL rs).length:Int),(k:Int),PUnit.unit),PUnit.unit)
  have hst:st 0=(((n:Int),[],pL rs,((pL rs).length:Int),0,PUnit.unit),PUnit.unit):=rfl
  rw [←hst]
  refine zb6 st rs.length (by omega) ?_ ?_
  · intro again k hk
    dsimp only [st]
    obtain ⟨x,hx⟩:∃ x,rs[k]? =some x:=⟨_,List.getElem?_eq_getElem hk⟩
    have hd:decide ((k:Int) < ((pL rs).length:Int))=true:=by simp; omega
    have hfill:([]++List.take (Int.toNat (n:Int)) (uL x.2)++List.drop ((0:Nat)+List.length (List.take (Int.toNat (n:Int)) (uL x.2))) (List.replicate (Int.toNat (n:Int)) (D.int IntKind.u8 (0:Int))))=uL (zjo n x.2):=by
      rw [Int.toNat_natCast,zwC,zqJ,zwD,Nat.zero_add,zdF,List.nil_append,←zAu]; rfl
    rw [hd,za1,zaa (by omega),zai (by simpa using zcJ hx),zeU,zaa (by omega),zaa (by rfl),zaa (by omega),zaa (by omega),zaa (by simp),zaa (zxN _),hfill,zaa (by simp [zh8]),zaa (by simp; omega),zaa (by rfl),
      zaJ,zam (by omega) (by omega),zaa (by simp),zEl (by simp [zh8]),zAX]
    have:(rs.take (k+1)).map (fun x=>(Tag.fresh,zjo n x.2))=(rs.take k).map (fun x=>(Tag.fresh,zjo n x.2))++[(Tag.fresh,zjo n x.2)]:=by rw [List.take_add_one,hx]; simp
    rw [this]
    rfl
  · intro again
    dsimp only [st]
    have hd:decide ((rs.length:Int) < ((pL rs).length:Int))=false:=by simp
    rw [hd,zas,zaa (by rfl),List.take_length,zaa (zkQ (by intro x hx; obtain ⟨y,hy,rfl⟩:=List.mem_map.1 hx; rfl))]
def fP (ls:List (List Int)):List Part:=ls.map fun l=>(Tag.fresh,l)
@[simp] theorem zA3 (ls:List (List Int)):(fP ls).length=ls.length:=by simp [fP]
theorem zsQ (ls:List (List Int)):(fP ls).map (·.2)=ls:=by
  unfold fP
  rw [List.map_map]
  exact List.map_id ls
theorem zf3 (ls:List (List Int)):(pL (fP ls)).all D.free=true:=zkQ (by intro x hx; obtain ⟨y,_,rfl⟩:=List.mem_map.1 hx; rfl)
theorem zFH (ls:List (List Int)) (i:Nat) (l:List Int):(fP ls).set i (Tag.fresh,l)=fP (ls.set i l):=by simp [fP,List.map_set]
theorem zvR {ls:List (List Int)} {k:Nat} {l:List Int} (h:ls[k]? =some l):(fP ls)[k]? =some (Tag.fresh,l):=by simp [fP,h]
theorem zCu (ps:List Part):(ps.map fun x=>(Tag.fresh,zjo 32 x.2))=fP (zcp (ps.map (·.2))):=by simp [fP,zcp]
theorem zCv (ls:List (List Int)):miss ls=(zc8 ls).map Int.ofNat:=rfl
theorem zy2 (k:Nat) (hk:k < 100000):zaU [.int .i64 k]=some (.int .u8 (pow8 (k % 255))):=by
  have h:=zvQ (k % 255) (Nat.mod_lt _ (by omega))
  rw [zq8] at h ⊢
  unfold zpM at h ⊢
  have e1:Int.tmod (k:Int) 255=((k % 255:Nat):Int):=by rw [Int.tmod_eq_emod_of_nonneg (by omega)]; omega
  have e2:Int.tmod ((k % 255:Nat):Int) 255=((k % 255:Nat):Int):=by rw [Int.tmod_eq_emod_of_nonneg (by omega)]; omega
  rw [e1]
  rw [e2] at h
  exact h
theorem zFI {a:Nat} (ha:a < 256):zes [.int .u8 a]=some (.int .i64 (if logN a=255 then -1 else (logN a:Int))):=by
  rw [zwU]
  unfold zt5
  refine zk4 (a:=(((a:Int),(1:Int),(0:Int),PUnit.unit),PUnit.unit)) (fun x=>(255 - x.1.2.2.1).toNat) (fun x=>some (D.int .i64 (if logF a (255 - x.1.2.2.1.toNat) x.1.2.1.toNat x.1.2.2.1.toNat=255 then -1 else (logF a (255 - x.1.2.2.1.toNat) x.1.2.1.toNat x.1.2.2.1.toNat:Int))))
    (fun x=>∃ n y:Nat,n≤255∧y < 256∧x=(((a:Int),(y:Int),(n:Int),PUnit.unit),PUnit.unit)) ?_ ⟨0,1,by omega,by omega,rfl⟩ (by simp)
  rintro again _ ⟨n,y,hn,hy,rfl⟩ hag
  dsimp only
  rw [Int.toNat_natCast,Int.toNat_natCast]
  by_cases h:n < 255
  · have e:255 - n=(255 - (n+1))+1:=by omega
    have hd:decide ((n:Int) < 255)=true:=by simp; omega
    rw [hd,za1,e]
    by_cases hya:y=a
    · subst hya
      have:logF y (255 - (n+1)+1) y n=n:=by unfold logF; rw [if_pos rfl]
      rw [this,if_neg (by omega)]
      simp
    · have hb:((y:Int) == (a:Int))=false:=by simp; omega
      have:logF a (255 - (n+1)+1) y n=logF a (255 - (n+1)) (dblN y) (n+1):=by rw [logF,if_neg hya]
      have hh:=hag (((a:Int),((dblN y:Nat):Int),((n+1:Nat):Int),PUnit.unit),PUnit.unit) ⟨n+1,dblN y,by omega,zj5 hy,rfl⟩ (by dsimp only; omega)
      dsimp only at hh
      rw [Int.toNat_natCast,Int.toNat_natCast] at hh
      rw [hb,zas,gf_double,zac,zbe,zaJ,zam (by omega) (by omega),zww hy,this]
      exact hh
  · have:n=255:=by omega
    subst this
    simp [logF]
theorem zDd {a:Int} (ha:Byt a):zcA [.int .u8 a]=some (.int .u8 (inv8 a)):=by
  obtain ⟨m,hm,rfl⟩:=zew ha
  rw [zwV]
  unfold zt6 inv8 invN
  rw [Int.toNat_natCast]
  by_cases h0:m=0
  · subst h0; simp
  · obtain ⟨h1,h2⟩:=zD4 m hm h0
    have hb:((m:Int) == 0)=false:=by simp; omega
    rw [hb,zas,zFI hm,zac,zbe,if_neg (by omega),if_neg h0,zaJ,zam (by omega) (by omega),show (255:Int) - (logN m:Int)=((255 - logN m:Nat):Int) by omega,zy2 _ (by omega),zac,zbe,zk5]
section
variable {ps:List Part} (h1:0 < ps.length) (h8:ps.length≤8) (hs:∀ x∈ps,x.2.length=32)
include h1 h8 hs
theorem by_q (tq tg:Tag) {q:List Int} (hq:q.length=32) {k:Nat} (hk:k < 8):
    zcq [.sl tq (uL q),.sl tg (pL ps),.int .i64 k]=some (.sl .own (uL (byQ q (ps.map (·.2)) k))):=by
  rw [zrP,zcW,zcZ]
  have hm:(ps.map fun x=>(zbW x.1 x.2,x.2)).map (·.2)=ps.map (·.2):=by rw [List.map_map]; rfl
  have hlen:(ps.map fun x=>(zbW x.1 x.2,x.2)).length=ps.length:=by simp
  have hs':∀ x∈(ps.map fun x=>(zbW x.1 x.2,x.2)),x.2.length=32:=by intro x hx; obtain ⟨y,hy,rfl⟩:=List.mem_map.1 hx; exact hs y hy
  rw [←hm]
  rw [←hlen] at h1 h8
  generalize (ps.map fun x=>(zbW x.1 x.2,x.2))=rs at*
  unfold zmx
  have hQ:=zAZ (n:=32) .lent (ps:=rs) (by omega) h1 (by omega) hs'
  have hr:Byt (inv8 (pow8 k)):=zxM _
  have ha:(addL q (sumQ 32 (rs.map (·.2)))).length < 100000:=by unfold addL; split<;>simp<;>omega
  simp (disch:=first | omega | assumption | (simp; done) | fail) [-List.all_eq_true,hQ,zhu _ _ _ _ (show q.length < 100000 by omega),zvQ k (by omega),zDd (zxK k),ziv _ _ ha hr.1 hr.2]
  rfl
theorem zFJ (tp tq tg:Tag) {p q:List Int} (hp:p.length=32) (hq:q.length=32) {j k:Nat} (hj:j < 8) (hk:k < 8):
    zcI [.sl tp (uL p),.sl tq (uL q),.sl tg (pL ps),.int .i64 j,.int .i64 k]=some (.tup [.sl .own (uL (twoX p q (ps.map (·.2)) j k)),.sl .own (uL (twoY p q (ps.map (·.2)) j k))]):=by
  rw [zrN,zcW,zcW,zcZ]
  have hm:(ps.map fun x=>(zbW x.1 x.2,x.2)).map (·.2)=ps.map (·.2):=by rw [List.map_map]; rfl
  have hlen:(ps.map fun x=>(zbW x.1 x.2,x.2)).length=ps.length:=by simp
  have hs':∀ x∈(ps.map fun x=>(zbW x.1 x.2,x.2)),x.2.length=32:=by intro x hx; obtain ⟨y,hy,rfl⟩:=List.mem_map.1 hx; exact hs y hy
  rw [←hm]
  rw [←hlen] at h1 h8
  generalize (ps.map fun x=>(zbW x.1 x.2,x.2))=rs at*
  unfold zmw
  have hQ:=zAZ (n:=32) .lent (ps:=rs) (by omega) h1 (by omega) hs'
  have hP:=zAY (n:=32) .lent (ps:=rs) (by omega) h1 (by omega) hs'
  have hr:Byt (inv8 (xor8 (pow8 j) (pow8 k))):=zxM _
  have addl:∀ {a b:List Int},a.length≤32→(addL a b).length≤32:=by intro a b h; unfold addL; split<;>simp<;>omega
  have h2:(addL p (sumP 32 (rs.map (·.2)))).length≤32:=addl (by omega)
  have h3:(addL q (sumQ 32 (rs.map (·.2)))).length≤32:=addl (by omega)
  have h4:(addL (addL q (sumQ 32 (rs.map (·.2)))) ((addL p (sumP 32 (rs.map (·.2)))).map (mul8 · (pow8 k)))).length≤32:=addl h3
  simp (disch:=first | omega | assumption | (simp; done) | fail) [-List.all_eq_true,hQ,hP,zhu _ _ _ _ (show q.length < 100000 by omega),zhu _ _ _ _ (show p.length < 100000 by omega),zvQ j (by omega),zvQ k (by omega),zDd (znc _ _),
    ziv _ _ (show (addL p (sumP 32 (rs.map (·.2)))).length < 100000 by omega) (zh7 k).1 (zh7 k).2,zhu _ _ _ _ (show (addL q (sumQ 32 (rs.map (·.2)))).length < 100000 by omega),zhu _ _ _ _ (show (addL p (sumP 32 (rs.map (·.2)))).length < 100000 by omega),
    ziv _ _ (show (addL (addL q (sumQ 32 (rs.map (·.2)))) ((addL p (sumP 32 (rs.map (·.2)))).map (mul8 · (pow8 k)))).length < 100000 by omega) hr.1 hr.2]
  exact ⟨rfl,rfl⟩
end
end Wf

namespace Wf
open Go Go.RowKit Go.Proofs
set_option linter.unusedSimpArgs false
set_option linter.unusedVariables false
set_option maxHeartbeats 4000000
def solD:Option (List (List Int))→D
  | none=>.tup [.sl .own [],.bool false]
  | some o=>.tup [.sl .own (pL (fP o)),.bool true]
theorem pLs (ls:List (List Int)) (i:Nat) (l:List Int):(pL (fP ls)).set i (.sl .fresh (uL l))=pL (fP (ls.set i l)):=by rw [zpb,zFH]
theorem zw1 {ls:List (List Int)} {i:Nat} (h:i < ls.length):(pL (fP ls))[i]? =some (.sl .fresh (uL (ls.getD i []))):=by
  have e:ls[i]? =some (ls.getD i []):=by rw [List.getD_eq_getElem?_getD,List.getElem?_eq_getElem h]; rfl
  exact zcJ (zvR e)
theorem zCw (tp tq tg:Tag) (p q:List Int) {ps:List Part} (hn:ps.length < 100000):
    zbY [.int .i64 32,.sl tp (uL p),.sl tq (uL q),.sl tg (pL ps)]=some (solD (zj9 p q (ps.map (·.2)))):=by
  rw [zpt,zcW,zcW,zcZ]
  have hm:(ps.map fun x=>(zbW x.1 x.2,x.2)).map (·.2)=ps.map (·.2):=by rw [List.map_map]; rfl
  have hlen:(ps.map fun x=>(zbW x.1 x.2,x.2)).length=ps.length:=by simp
  rw [←hm]
  rw [←hlen] at hn
  generalize (ps.map fun x=>(zbW x.1 x.2,x.2))=rs at*
  clear hm hlen ps
  unfold ziU zj9
  have hmi:=znN .lent rs hn
  rw [zCv] at hmi
  have hpq:zbA [.sl .full [.sl .lent (uL p),.sl .lent (uL q)]]=some (.sl .own (intL ((zc8 [p,q]).map Int.ofNat))):=znN .full [(Tag.lent,p),(Tag.lent,q)] (by simp)
  have hfi:=erase_fits .lent rs hn 32
  have hfa:(rs.all fun x=>fitS 32 x.2)=(rs.map (·.2)).all (fitS 32):=by rw [List.all_map]; rfl
  rw [hfa] at hfi
  have hfpq:zb4 [.int .i64 32,.sl .full [.sl .lent (uL p),.sl .lent (uL q)]]=some (.bool ([p,q].all (fitS 32))):=erase_fits .full [(Tag.lent,p),(Tag.lent,q)] (by simp) 32
  have hfl:zbM [.int .i64 32,.sl .lent (pL rs)]=some (.sl .own (pL (fP (zcp (rs.map (·.2)))))):=by
    have:=erase_filled 32 (by omega) .lent rs hn
    rw [zCu] at this
    exact this
  have hl:(rs.map (·.2)).length=rs.length:=by simp
  generalize hls:rs.map (·.2)=ls at*
  have hfill:(zcp ls).length=rs.length:=by rw [zcO,hl]
  by_cases c1:rs.length < 1
  · rw [if_pos (.inl (by omega))]
    simp (disch:=first | omega | assumption | (simp; done) | fail) [-List.all_eq_true,hmi,c1,solD]
  by_cases c2:8 < rs.length
  · rw [if_pos (.inr (.inl (by omega)))]
    simp (disch:=first | omega | assumption | (simp; done) | fail) [-List.all_eq_true,hmi,c1,c2,solD]
  cases c3:ls.all (fitS 32)
  · rw [if_pos (.inr (.inr (.inl rfl)))]
    simp (disch:=first | omega | assumption | (simp; done) | fail) [-List.all_eq_true,hmi,c1,c2,hfi,c3,solD]
  cases c4:[p,q].all (fitS 32)
  · rw [if_pos (.inr (.inr (.inr rfl)))]
    simp (disch:=first | omega | assumption | (simp; done) | fail) [-List.all_eq_true,-List.all_cons,hmi,c1,c2,hfi,c3,hfpq,c4,solD]
  rw [if_neg (by rintro (e | e | e | e)<;>first | omega | cases e)]
  have hml:(zc8 ls).length≤8:=by
    have:(zc8 ls).length≤ls.length:=by unfold zc8; exact Nat.le_trans (List.length_filter_le _ _) (by simp)
    omega
  have hml2:=ztL p q
  have hml3:(zc8 [p,q]).length≤2:=by rw [hml2]; split<;>split<;>omega
  by_cases c5:2 < (zc8 ls).length+(zc8 [p,q]).length
  · rw [if_pos c5]
    simp (disch:=first | omega | assumption | (simp; done) | fail) [-List.all_eq_true,-List.all_cons,hmi,c1,c2,hfi,c3,hfpq,c4,hpq,zgp,zam,solD]
  rw [if_neg c5]
  rcases hmm:zc8 ls with _ | ⟨j,_ | ⟨k,_ | ⟨m,t⟩⟩⟩
  · rw [hmm] at c5 hmi
    simp (disch:=first | omega | assumption | (simp; done) | fail) [-List.all_eq_true,-List.all_cons,hmi,c1,c2,hfi,c3,hfpq,c4,hpq,zgp,zam,solD,hfl,zf3]
  · have hj:=zd8.1 (show j∈zc8 ls by rw [hmm]; simp)
    rw [hmm] at c5 hmi
    have hi1:intL [(j:Int)]=[.int .i64 j]:=rfl
    have c6:¬ 2 < 1+((zc8 [p,q]).length:Int):=by simp at c5; omega
    have hg:=zw1 (ls:=zcp ls) (i:=j) (by omega)
    dsimp only
    by_cases hp:0 < p.length
    · rw [if_pos hp]
      have hP:=zAY (n:=32) .lent (ps:=fP (zcp ls)) (by omega) (by simp; omega) (by simp; omega) (by intro x hx; obtain ⟨l,hl,rfl⟩:=List.mem_map.1 hx; unfold zcp at hl; obtain ⟨y,_,rfl⟩:=List.mem_map.1 hl; exact zh8 32 y)
      rw [zsQ] at hP
      have hpl:p.length=32:=by
        simp [fitS] at c4
        rcases c4.1 with e | e
        · rw [e] at hp; cases hp
        · omega
      simp (disch:=first | omega | assumption | (simp; done) | fail) [-List.all_eq_true,-List.all_cons,hmi,c1,c2,hfi,c3,hfpq,c4,hpq,zgp,hi1,zam,solD,hfl,hP,hp,zhu,zai hg,pLs,zf3,hfill,c6,D.isAgg]
    · rw [if_neg hp]
      have hq:q.length=32:=by
        have hp0:p=[]:=by cases p; rfl; simp at hp
        have hq0:¬ q=[]:=by intro e; rw [hml2,if_pos hp0,if_pos e] at c5; simp at c5
        simp [fitS] at c4
        rcases c4.2 with e | e
        · exact absurd e hq0
        · omega
      have hQ:=by_q (ps:=fP (zcp ls)) (by simp; omega) (by simp; omega) (by intro x hx; obtain ⟨l,hl,rfl⟩:=List.mem_map.1 hx; unfold zcp at hl; obtain ⟨y,_,rfl⟩:=List.mem_map.1 hl; exact zh8 32 y) .lent .lent hq (k:=j) (by omega)
      rw [zsQ] at hQ
      simp (disch:=first | omega | assumption | (simp; done) | fail) [-List.all_eq_true,-List.all_cons,hmi,c1,c2,hfi,c3,hfpq,c4,hpq,zgp,hi1,zam,solD,hfl,hQ,hp,zai hg,pLs,zf3,hfill,c6,D.isAgg]
  · have hj:=zd8.1 (show j∈zc8 ls by rw [hmm]; simp)
    have hk:=zd8.1 (show k∈zc8 ls by rw [hmm]; simp)
    have hjk:j < k:=by have:=zmb ls; rw [hmm] at this; simpa using this
    rw [hmm] at c5 hmi
    have hi1:intL [(j:Int),(k:Int)]=[.int .i64 j,.int .i64 k]:=rfl
    have c6:¬ 2 < 2+((zc8 [p,q]).length:Int):=by simp at c5; simp [c5]
    have hp0:¬ p=[]:=by intro e; rw [hml2,if_pos e] at c5; simp at c5
    have hq0:¬ q=[]:=by intro e; rw [hml2,if_pos e] at c5; simp at c5
    have hpl:p.length=32∧q.length=32:=by
      simp [fitS] at c4
      exact ⟨by rcases c4.1 with e | e; exact absurd e hp0; omega,by rcases c4.2 with e | e; exact absurd e hq0; omega⟩
    have hT:=zFJ (ps:=fP (zcp ls)) (by simp; omega) (by simp; omega) (by intro x hx; obtain ⟨l,hl,rfl⟩:=List.mem_map.1 hx; unfold zcp at hl; obtain ⟨y,_,rfl⟩:=List.mem_map.1 hl; exact zh8 32 y) .lent .lent .lent hpl.1 hpl.2 (j:=j) (k:=k) (by omega) (by omega)
    rw [zsQ] at hT
    have hg:=zw1 (ls:=zcp ls) (i:=j) (by omega)
    have hg2:=zw1 (ls:=(zcp ls).set j (twoX p q (zcp ls) j k)) (i:=k) (by simp; omega)
    dsimp only
    simp (disch:=first | omega | assumption | (simp; done) | fail) [-List.all_eq_true,-List.all_cons,hmi,c1,c2,hfi,c3,hfpq,c4,hpq,zgp,hi1,zam,solD,hfl,hT,zai hg,zai hg2,pLs,zf3,hfill,c6,D.isAgg]
  · rw [hmm] at c5; simp at c5; omega
end Wf

namespace Wf
open Go Go.RowKit Go.Proofs
set_option linter.unusedSimpArgs false
set_option linter.unusedVariables false
def zoI (b:Int) (k:Nat) (s:Int×Int):Int×Int:=
  (if IntKind.i64.wrap (s.1*2) > 255 then bits .xor .i64 (IntKind.i64.wrap (s.1*2)) 285 else IntKind.i64.wrap (s.1*2),
   if bits .and .u8 (b.fdiv (2 ^ min k 8)) 1=1 then bits .xor .i64 s.2 s.1 else s.2)
def zem (a b:Int):Nat→Int×Int
  | 0=>(IntKind.i64.wrap a,0)
  | k+1=>zoI b k (zem a b k)
def zeN (a b:Int):Int:=IntKind.u8.wrap (zem a b 8).2
theorem zA4 (a b:Int):zaP [.int .u8 a,.int .u8 b]=some (.int .u8 (zeN a b)):=by
  rw [zlz]
  unfold zfz
  rw [zaJ]
  refine zb6 (fun k=>((b,(zem a b k).1,(zem a b k).2,(k:Int),PUnit.unit),PUnit.unit)) 8 (by omega) ?_ ?_
  · intro again k hk
    dsimp only
    have hd:decide ((k:Int) < 8)=true:=by simp; omega
    rw [hd,za1,zaJ,zBX (by omega) (by omega),zaa (by omega),zaJ,zaJ,Int.toNat_natCast]
    have hs:zem a b (k+1)=zoI b k (zem a b k):=rfl
    have hk1:IntKind.i64.wrap ((k:Int)+1)=((k+1:Nat):Int):=by rw [zam (by omega) (by omega)]; rfl
    rw [hs]
    unfold zoI
    by_cases hb:bits .and .u8 (b.fdiv (2 ^ min k 8)) 1=1
    · have hb':(bits .and .u8 (b.fdiv (2 ^ min k 8)) 1 == 1)=true:=by simp [hb]
      rw [hb',za1,zaJ,zaJ,if_pos hb]
      by_cases hx:IntKind.i64.wrap ((zem a b k).1*2) > 255
      · have hx':decide (IntKind.i64.wrap ((zem a b k).1*2) > 255)=true:=by simp [hx]
        rw [hx',za1,zaJ,zaJ,hk1,if_pos hx]
      · have hx':decide (IntKind.i64.wrap ((zem a b k).1*2) > 255)=false:=by simp; omega
        rw [hx',zas,zaJ,hk1,if_neg hx]
    · have hb':(bits .and .u8 (b.fdiv (2 ^ min k 8)) 1 == 1)=false:=by simp [hb]
      rw [hb',zas,zaJ,if_neg hb]
      by_cases hx:IntKind.i64.wrap ((zem a b k).1*2) > 255
      · have hx':decide (IntKind.i64.wrap ((zem a b k).1*2) > 255)=true:=by simp [hx]
        rw [hx',za1,zaJ,zaJ,hk1,if_pos hx]
      · have hx':decide (IntKind.i64.wrap ((zem a b k).1*2) > 255)=false:=by simp; omega
        rw [hx',zas,zaJ,hk1,if_neg hx]
  · intro again
    dsimp only
    have hd:decide (((8:Nat):Int) < 8)=false:=by simp
    rw [hd,zas,zaJ]
    rfl
def zd0:Nat→Int
  | 0=>1
  | k+1=>zeN (zd0 k) 2
theorem zEm (k:Nat) (hk:k < 255):zbx [.int .i64 k]=some (.int .u8 (zd0 k)):=by
  rw [zlB]
  unfold zfA
  have e1:Int.tmod (k:Int) 255=k:=by rw [Int.tmod_eq_emod_of_nonneg (by omega),Int.emod_eq_of_lt (by omega) (by omega)]
  have hd:decide ((k:Int) < 0)=false:=by simp
  rw [zaJ,e1,hd,zas]
  let st:Nat→(Int×Int×PUnit)×PUnit:=fun j=>(((k:Int) - (j:Int),zd0 j,PUnit.unit),PUnit.unit)
  have hst:st 0=(((k:Int),1,PUnit.unit),PUnit.unit):=by simp [st,zd0]
  rw [←hst]
  refine zb6 st k (by omega) ?_ ?_
  · intro again j hj
    dsimp only [st]
    have hd:decide ((k:Int) - (j:Int) > 0)=true:=by simp; omega
    rw [hd,za1,zA4,zac,zbe,zaJ,zam (by omega) (by omega)]
    have:(k:Int) - (j:Int) - 1=(k:Int) - ((j+1:Nat):Int):=by omega
    rw [this]
    rfl
  · intro again
    dsimp only [st]
    have hd:decide ((k:Int) - (k:Int) > 0)=false:=by simp
    rw [hd,zas]
def mixL (f:Int→Int→Int) (acc p:List Int) (j:Nat):List Int:=(List.zipWith f acc p).take j++acc.drop j
theorem zx0 {f:Int→Int→Int} {acc p:List Int} (h:p.length=acc.length) {j:Nat} (hj:j≤acc.length):(mixL f acc p j).length=acc.length:=by
  unfold mixL; simp [h]; omega
theorem zx1 {f:Int→Int→Int} {acc p:List Int} (h:p.length=acc.length) {j:Nat} (hj:j < acc.length):(mixL f acc p j)[j]? =some acc[j]:=by
  unfold mixL
  rw [List.getElem?_append_right (by simp; omega)]
  simp [h]
  rw [show j - min j acc.length=0 by omega]
  simp [hj]
theorem zx2 {f:Int→Int→Int} {acc p:List Int} (h:p.length=acc.length) {j:Nat} (hj:j < acc.length):(mixL f acc p j).set j (f acc[j] (p[j]'(by omega)))=mixL f acc p (j+1):=by
  unfold mixL
  have hl:((List.zipWith f acc p).take j).length=j:=by simp [h]; omega
  rw [List.set_append_right _ _ (by omega),hl,Nat.sub_self,List.take_add_one,List.drop_eq_getElem_cons hj,List.set_cons_zero]
  simp [List.getElem?_zipWith,hj,h]
theorem zx3 {f:Int→Int→Int} {acc p:List Int} (h:p.length=acc.length):mixL f acc p acc.length=List.zipWith f acc p:=by
  unfold mixL
  rw [List.drop_of_length_le (Nat.le_refl _),List.append_nil,List.take_of_length_le (by simp; omega)]
theorem zvS (f:Int→Int→Int) (acc p:List Int):mixL f acc p 0=acc:=by simp [mixL]
def sumR (F:Nat→Int→Int) (n:Nat) (ls:List (List Int)):Nat→List Int
  | 0=>List.replicate n 0
  | k+1=>List.zipWith (fun a x=>xor8 a (F k x)) (sumR F n ls k) (ls.getD k [])
theorem zuj {F:Nat→Int→Int} {n:Nat} {ls:List (List Int)} (h:∀ l∈ls,l.length=n):∀ {k:Nat},k≤ls.length→(sumR F n ls k).length=n
  | 0,_=>by simp [sumR]
  | k+1,hk=>by
    have e:ls.getD k []=ls[k]:=by simp [List.getD_eq_getElem?_getD,List.getElem?_eq_getElem (show k < ls.length by omega)]
    simp only [sumR,List.length_zipWith,e,zuj h (show k≤ls.length by omega),h _ (List.getElem_mem (show k < ls.length by omega))]
    omega
def refP (n:Nat) (ls:List (List Int)):List Int:=sumR (fun _ x=>x) n ls ls.length
def refQ (n:Nat) (ls:List (List Int)):List Int:=sumR (fun k x=>zeN x (zd0 k)) n ls ls.length
theorem zvT (tg:Tag) {ps:List Part} {n:Nat} (h0:0 < ps.length) (h1:ps.length < 100000) (h:∀ x∈ps,x.2.length=n):zaH [.sl tg (pL ps)]=some (.bool true):=by
  rw [zjG,zcZ]
  have hlen:(ps.map fun x=>(zbW x.1 x.2,x.2)).length=ps.length:=by simp
  have hl':∀ x∈(ps.map fun x=>(zbW x.1 x.2,x.2)),x.2.length=n:=by intro x hx; obtain ⟨y,hy,rfl⟩:=List.mem_map.1 hx; exact h y hy
  rw [←hlen] at h0 h1
  generalize (ps.map fun x=>(zbW x.1 x.2,x.2))=rs at*
  unfold zeF
  obtain ⟨x0,hx0⟩:∃ x,rs[0]? =some x:=⟨_,List.getElem?_eq_getElem h0⟩
  refine zb6 (fun k=>((pL rs,pL rs,((pL rs).length:Int),(k:Int),PUnit.unit),PUnit.unit)) rs.length h1 ?_ ?_
  · intro again k hk
    dsimp only
    obtain ⟨x,hx⟩:∃ x,rs[k]? =some x:=⟨_,List.getElem?_eq_getElem hk⟩
    have hd:decide ((k:Int) < ((pL rs).length:Int))=true:=by simp; omega
    have hb:(((uL x.2).length:Int) != ((uL x0.2).length:Int))=false:=by simp [hl' x (List.mem_of_getElem? hx),hl' x0 (List.mem_of_getElem? hx0)]
    rw [hd,za1,zaa (by omega),zai (by simpa using zcJ hx),zeU,zai (zcJ hx0),zeU,hb,zas,zaJ,zam (by omega) (by omega)]
    rfl
  · intro again
    have hd:decide ((rs.length:Int) < ((pL rs).length:Int))=false:=by simp
    have hd2:decide (((pL rs).length:Int) > 0)=true:=by simp; omega
    dsimp only
    rw [hd,zas,hd2]
theorem zGs (tg:Tag) {ps:List Part} {n:Nat} (hn:n < 100000) (h0:0 < ps.length) (h1:ps.length < 100000) (h:∀ x∈ps,x.2.length=n):zbK [.sl tg (pL ps)]=some (.sl .own (uL (refP n (ps.map (·.2))))):=by
  rw [znG,zcZ]
  have hlen:(ps.map fun x=>(zbW x.1 x.2,x.2)).length=ps.length:=by simp
  have hm:(ps.map fun x=>(zbW x.1 x.2,x.2)).map (·.2)=ps.map (·.2):=by rw [List.map_map]; rfl
  have hl':∀ x∈(ps.map fun x=>(zbW x.1 x.2,x.2)),x.2.length=n:=by intro x hx; obtain ⟨y,hy,rfl⟩:=List.mem_map.1 hx; exact h y hy
  rw [←hlen] at h0 h1
  rw [←hm]
  generalize (ps.map fun x=>(zbW x.1 x.2,x.2))=rs at*
  clear hm hlen h ps
  unfold zg2
  obtain ⟨x0,hx0⟩:∃ x,rs[0]? =some x:=⟨_,List.getElem?_eq_getElem h0⟩
  have hls:∀ l∈rs.map (·.2),l.length=n:=by intro l hl; obtain ⟨y,hy,rfl⟩:=List.mem_map.1 hl; exact hl' y hy
  rw [zvT .lent h0 h1 hl',zac,zcr,Bool.not_true,zas,zai (zcJ hx0),zeU,zaa (by rfl),zdF,hl' x0 (List.mem_of_getElem? hx0),zaa (by omega),zaa (by omega),zaa (by simp),Int.toNat_natCast,zqJ]
  let st:Nat→(List D×List D×Int×Int×PUnit)×PUnit:=fun k=>((uL (sumR (fun _ x=>x) n (rs.map (·.2)) k),pL rs,((pL rs).length:Int),(k:Int),PUnit.unit),PUnit.unit)
  have hst:st 0=((uL (List.replicate n 0),pL rs,((pL rs).length:Int),0,PUnit.unit),PUnit.unit):=rfl
  rw [←hst]
  refine zb6 st rs.length h1 ?_ ?_
  · intro again k hk
    dsimp only [st]
    obtain ⟨x,hx⟩:∃ x,rs[k]? =some x:=⟨_,List.getElem?_eq_getElem hk⟩
    have hxl:=hl' x (List.mem_of_getElem? hx)
    have hd:decide ((k:Int) < ((pL rs).length:Int))=true:=by simp; omega
    have hsl:=zuj (F:=fun _ x=>x) hls (k:=k) (by simp; omega)
    have hxe:x.2.length=(sumR (fun _ x=>x) n (rs.map (·.2)) k).length:=by omega
    rw [hd,za1,zaa (by omega),zai (by simpa using zcJ hx),zeU,zaa (by rfl)]
    let s2:Nat→(List D×List D×Int×Int×(Tag×List D)×Int×Int×PUnit)×PUnit:=fun j=>((uL (mixL (fun a x=>xor8 a x) (sumR (fun _ x=>x) n (rs.map (·.2)) k) x.2 j),pL rs,((pL rs).length:Int),(k:Int),(x.1,uL x.2),((uL x.2).length:Int),(j:Int),PUnit.unit),PUnit.unit)
    have hs2:s2 0=((uL (sumR (fun _ x=>x) n (rs.map (·.2)) k),pL rs,((pL rs).length:Int),(k:Int),(x.1,uL x.2),((uL x.2).length:Int),0,PUnit.unit),PUnit.unit):=by simp only [s2,zvS]; rfl
    rw [←hs2]
    refine zb6 s2 x.2.length (by omega) ?_ ?_
    · intro again2 j hj
      dsimp only [s2]
      have hd:decide ((j:Int) < ((uL x.2).length:Int))=true:=by simp; omega
      have g1:x.2[j]? =some x.2[j]:=List.getElem?_eq_getElem hj
      have g2:=zx1 (f:=fun a x=>xor8 a x) hxe (j:=j) (by omega)
      have ml:=zx0 (f:=fun a x=>xor8 a x) hxe (j:=j) (by omega)
      have ms:=zx2 (f:=fun a x=>xor8 a x) hxe (j:=j) (by omega)
      rw [hd,za1,zaa (by omega),zai (by simpa using zjd g1),zbe,zaa (by omega),zaa (by rw [zdF,ml]; omega),zai (by simpa using zjd g2),zbe,zaJ,zaa (by omega),zaa (by rw [zdF,ml]; omega),zai (by simpa using zjd g2),zaa (by rfl),zaJ,
        zam (by omega) (by omega),zaa (by simp),Nat.zero_add,zAw,show Int.toNat (j:Int)=j from rfl,ms]
      rfl
    · intro again2
      dsimp only [s2]
      have hd:decide ((x.2.length:Int) < ((uL x.2).length:Int))=false:=by simp
      have me:mixL (fun a x=>xor8 a x) (sumR (fun _ x=>x) n (rs.map (·.2)) k) x.2 x.2.length=sumR (fun _ x=>x) n (rs.map (·.2)) (k+1):=by
        rw [hxe,zx3 hxe]
        have:(rs.map (·.2)).getD k []=x.2:=by simp [List.getD_eq_getElem?_getD,hx]
        simp only [sumR,this]
      rw [hd,zas,zaJ,zam (by omega) (by omega),zaa (by rfl),me]
      rfl
  · intro again
    dsimp only [st]
    have hd:decide ((rs.length:Int) < ((pL rs).length:Int))=false:=by simp
    rw [hd,zas,zaa (by rfl),zaa (zgN _)]
    simp [refP]
theorem zGt (tg:Tag) {ps:List Part} {n:Nat} (hn:n < 100000) (h0:0 < ps.length) (h1:ps.length < 255) (h:∀ x∈ps,x.2.length=n):zbL [.sl tg (pL ps)]=some (.sl .own (uL (refQ n (ps.map (·.2))))):=by
  rw [znI,zcZ]
  have hlen:(ps.map fun x=>(zbW x.1 x.2,x.2)).length=ps.length:=by simp
  have hm:(ps.map fun x=>(zbW x.1 x.2,x.2)).map (·.2)=ps.map (·.2):=by rw [List.map_map]; rfl
  have hl':∀ x∈(ps.map fun x=>(zbW x.1 x.2,x.2)),x.2.length=n:=by intro x hx; obtain ⟨y,hy,rfl⟩:=List.mem_map.1 hx; exact h y hy
  rw [←hlen] at h0 h1
  rw [←hm]
  generalize (ps.map fun x=>(zbW x.1 x.2,x.2))=rs at*
  clear hm hlen h ps
  unfold zg5
  obtain ⟨x0,hx0⟩:∃ x,rs[0]? =some x:=⟨_,List.getElem?_eq_getElem h0⟩
  have hls:∀ l∈rs.map (·.2),l.length=n:=by intro l hl; obtain ⟨y,hy,rfl⟩:=List.mem_map.1 hl; exact hl' y hy
  rw [zvT .lent h0 (by omega) hl',zac,zcr,Bool.not_true,zas,zai (zcJ hx0),zeU,zaa (by rfl),zdF,hl' x0 (List.mem_of_getElem? hx0),zaa (by omega),zaa (by omega),zaa (by simp),Int.toNat_natCast,zqJ]
  let st:Nat→(List D×List D×Int×Int×PUnit)×PUnit:=fun k=>((uL (sumR (fun k x=>zeN x (zd0 k)) n (rs.map (·.2)) k),pL rs,((pL rs).length:Int),(k:Int),PUnit.unit),PUnit.unit)
  have hst:st 0=((uL (List.replicate n 0),pL rs,((pL rs).length:Int),0,PUnit.unit),PUnit.unit):=rfl
  rw [←hst]
  refine zb6 st rs.length (by omega) ?_ ?_
  · intro again k hk
    dsimp only [st]
    obtain ⟨x,hx⟩:∃ x,rs[k]? =some x:=⟨_,List.getElem?_eq_getElem hk⟩
    have hxl:=hl' x (List.mem_of_getElem? hx)
    have hd:decide ((k:Int) < ((pL rs).length:Int))=true:=by simp; omega
    have hsl:=zuj (F:=fun k x=>zeN x (zd0 k)) hls (k:=k) (by simp; omega)
    have hxe:x.2.length=(sumR (fun k x=>zeN x (zd0 k)) n (rs.map (·.2)) k).length:=by omega
    rw [hd,za1,zaa (by omega),zai (by simpa using zcJ hx),zeU,zEm k (by omega),zac,zbe,zaa (by rfl)]
    let s2:Nat→(List D×Int×List D×Int×Int×(Tag×List D)×Int×Int×PUnit)×PUnit:=fun j=>((uL (mixL (fun a x=>xor8 a (zeN x (zd0 k))) (sumR (fun k x=>zeN x (zd0 k)) n (rs.map (·.2)) k) x.2 j),zd0 k,pL rs,((pL rs).length:Int),(k:Int),(x.1,uL x.2),((uL x.2).length:Int),(j:Int),PUnit.unit),PUnit.unit)
    have hs2:s2 0=((uL (sumR (fun k x=>zeN x (zd0 k)) n (rs.map (·.2)) k),zd0 k,pL rs,((pL rs).length:Int),(k:Int),(x.1,uL x.2),((uL x.2).length:Int),0,PUnit.unit),PUnit.unit):=by simp only [s2,zvS]; rfl
    rw [←hs2]
    refine zb6 s2 x.2.length (by omega) ?_ ?_
    · intro again2 j hj
      dsimp only [s2]
      have hd:decide ((j:Int) < ((uL x.2).length:Int))=true:=by simp; omega
      have g1:x.2[j]? =some x.2[j]:=List.getElem?_eq_getElem hj
      have g2:=zx1 (f:=fun a x=>xor8 a (zeN x (zd0 k))) hxe (j:=j) (by omega)
      have ml:=zx0 (f:=fun a x=>xor8 a (zeN x (zd0 k))) hxe (j:=j) (by omega)
      have ms:=zx2 (f:=fun a x=>xor8 a (zeN x (zd0 k))) hxe (j:=j) (by omega)
      rw [hd,za1,zaa (by omega),zai (by simpa using zjd g1),zbe,zaa (by omega),zaa (by rw [zdF,ml]; omega),zai (by simpa using zjd g2),zbe,zA4,zac,zbe,zaJ,zaa (by omega),zaa (by rw [zdF,ml]; omega),zai (by simpa using zjd g2),zaa (by rfl),zaJ,
        zam (by omega) (by omega),zaa (by simp),Nat.zero_add,zAw,show Int.toNat (j:Int)=j from rfl,ms]
      rfl
    · intro again2
      dsimp only [s2]
      have hd:decide ((x.2.length:Int) < ((uL x.2).length:Int))=false:=by simp
      have me:mixL (fun a x=>xor8 a (zeN x (zd0 k))) (sumR (fun k x=>zeN x (zd0 k)) n (rs.map (·.2)) k) x.2 x.2.length=sumR (fun k x=>zeN x (zd0 k)) n (rs.map (·.2)) (k+1):=by
        rw [hxe,zx3 hxe]
        have:(rs.map (·.2)).getD k []=x.2:=by simp [List.getD_eq_getElem?_getD,hx]
        simp only [sumR,this]
      rw [hd,zas,zaJ,zam (by omega) (by omega),zaa (by rfl),me]
      rfl
  · intro again
    dsimp only [st]
    have hd:decide ((rs.length:Int) < ((pL rs).length:Int))=false:=by simp
    rw [hd,zas,zaa (by rfl),zaa (zgN _)]
    simp [refQ]
def zlV (n:Int) (i:Nat):Int:=IntKind.u8.wrap (IntKind.i64.wrap (n+IntKind.i64.wrap ((i:Int)*bits .or .i64 (IntKind.i64.wrap (n.tdiv 7)) 1)))
def secN (n:Int):List Int:=if n % 11=10 then List.replicate 32 0 else (List.range 32).map (zlV n)
theorem zCx (n:Int):Sec (secN n):=by
  unfold secN
  split
  · exact zj6
  · refine ⟨by simp,fun x h=>?_⟩
    obtain ⟨i,_,rfl⟩:=List.mem_map.1 h
    exact zqG _
theorem zrk (n:Int):zbb [.int .i64 n]=some (.sl .own (uL (secN n))):=by
  rw [zjD]
  unfold zeE
  rw [zrh n 11 (by omega) (by omega),zac,zbe]
  unfold secN
  by_cases h:n % 11=10
  · rw [if_pos h]; simp [h]; rfl
  · rw [if_neg h]
    have hb:(n % 11 == 10)=false:=by simp [h]
    rw [hb,zas]
    have:=zb6 (R:=D) (α:=(Int×List D×Int×Int×PUnit)×PUnit)
      (fun k=>((n,uL ((List.range 32).map fun i=>if i < k then zlV n i else 0),32,(k:Int),PUnit.unit),PUnit.unit)) 32 (by omega)
      (B:=?B) (r:=some (.sl .own (uL ((List.range 32).map (zlV n))))) ?_ ?_
    · exact this
    · intro again k hk
      dsimp only
      have hd:decide ((k:Int) < 32)=true:=by simp; omega
      have hg:((List.range 32).map fun i=>if i < k then zlV n i else 0)[k]? =some 0:=by simp [hk]
      have hv:zlV n k=IntKind.u8.wrap (IntKind.i64.wrap (n+IntKind.i64.wrap ((k:Int)*bits .or .i64 (IntKind.i64.wrap (n.tdiv 7)) 1))):=rfl
      rw [hd,za1,zaJ,zaJ,zaJ,zaJ,zaJ,←hv,zaa (by omega),zaa (by simp; omega),zai (by simpa using zjd hg)]
      rw [zaa (by rfl),zaJ,zam (n:=(k:Int)+1) (by omega) (by omega),zaa (by simp)]
      have:(uL ((List.range 32).map fun i=>if i < k then zlV n i else 0)).set (0+Int.toNat (k:Int)) (.int .u8 (zlV n k))=uL ((List.range 32).map fun i=>if i < k+1 then zlV n i else 0):=by
        rw [zAw]
        congr 1
        apply List.ext_getElem?
        intro j
        rw [List.getElem?_set]
        by_cases hj:j < 32
        · by_cases hjk:k=j
          · subst hjk; simp [hj]
          · have:(0+Int.toNat (k:Int))≠j:=by simp; exact hjk
            rw [if_neg this]
            simp [hj]
            by_cases h1:j < k
            · rw [if_pos h1,if_pos (by omega)]
            · rw [if_neg h1,if_neg (by omega)]
        · simp [hj]
          omega
      rw [this]
      rfl
    · intro again
      have e:((List.range 32).map fun i=>if i < 32 then zlV n i else 0)=(List.range 32).map (zlV n):=by
        apply List.map_congr_left; intro i hi; rw [if_pos (List.mem_range.1 hi)]
      dsimp only
      rw [e]
      simp
def secL (l:List Int) (n:Nat):List (List Int):=(List.range n).map fun (i:Nat)=>secN (l.getD i (3*(i:Int)))
theorem zx4 (l:List Int) (n:Nat):∀ x∈secL l n,Sec x:=by
  intro x hx; obtain ⟨i,_,rfl⟩:=List.mem_map.1 hx; exact zCx _
@[simp] theorem zF6 (l:List Int) (n:Nat):(secL l n).length=n:=by simp [secL]
theorem zEn (ls:List (List Int)) (l:List Int):pL (fP ls)++[.sl .fresh (uL l)]=pL (fP (ls++[l])):=by simp [pL,fP]
theorem zvU (tg:Tag) (l:List Int) {n:Nat} (hn:n < 100000):zbc [.sl tg (intL l),.int .i64 n]=some (.sl .own (pL (fP (secL l n)))):=by
  rw [zi3,zqE]
  unfold zei
  let st:Nat→(List D×Int×List D×Int×PUnit)×PUnit:=fun k=>((intL l,(n:Int),pL (fP (secL l k)),(k:Int),PUnit.unit),PUnit.unit)
  show zcb _ (st 0)=_
  refine zb6 st n hn ?_ ?_
  · intro again k hk
    dsimp only [st]
    have hd:decide ((k:Int) < (n:Int))=true:=by simp; omega
    have hs:secL l (k+1)=secL l k++[secN (l.getD k (3*(k:Int)))]:=by unfold secL; rw [List.range_succ,List.map_append]; rfl
    rw [hd,za1,zaJ,zgp,hs,←zEn]
    by_cases hkl:k < l.length
    · have hd2:decide ((k:Int) < (l.length:Int))=true:=by simp; omega
      have hg:l.getD k (3*(k:Int))=l[k]:=by simp [List.getD_eq_getElem?_getD,hkl]
      rw [hd2,za1,zaa (by omega),zai (by simpa using zBV hkl),zbe,zrk,zac,zbF,zaa (by omega),zaa (by simp; omega),zaa (by rfl),zaJ,zam (n:=(k:Int)+1) (by omega) (by omega),zdd,zaa (by simp),hg]
      rfl
    · have hd2:decide ((k:Int) < (l.length:Int))=false:=by simp; omega
      have hg:l.getD k (3*(k:Int))=3*(k:Int):=by simp [List.getD_eq_getElem?_getD,List.getElem?_eq_none (show l.length≤k by omega)]
      rw [hd2,zas,zam (n:=3*(k:Int)) (by omega) (by omega),zrk,zac,zbF,zaa (by omega),zaa (by simp; omega),zaa (by rfl),zaJ,zam (n:=(k:Int)+1) (by omega) (by omega),zdd,zaa (by simp),hg]
      rfl
  · intro again
    dsimp only [st]
    have hd:decide ((n:Int) < (n:Int))=false:=by simp
    rw [hd,zas,zaa (by rfl),zaa (zf3 _)]
def zlc (b:Nat) (k:Nat) (s:Nat×Nat):Nat×Nat:=
  (if 255 < s.1*2 then (s.1*2) ^^^ 285 else s.1*2,if b / 2 ^ k % 2=1 then s.2 ^^^ s.1 else s.2)
def zcC (a b:Nat):Nat→Nat×Nat
  | 0=>(a,0)
  | k+1=>zlc b k (zcC a b k)
theorem zEo {m n k:Nat} (hm:m < 2 ^ k) (hn:n < 2 ^ k):m ^^^ n < 2 ^ k:=Nat.xor_lt_two_pow hm hn
theorem zFK (m n:Nat) (hm:m < 1024) (hn:n < 1024):bits .xor .i64 (m:Int) (n:Int)=((m ^^^ n:Nat):Int):=by
  have h:m ^^^ n < 2 ^ 10:=zEo (by omega) (by omega)
  have e:((BitVec.ofInt 64 (m:Int)) ^^^ (BitVec.ofInt 64 (n:Int))).toNat=m ^^^ n:=by
    rw [BitVec.toNat_xor]
    simp [Nat.mod_eq_of_lt (show m < 18446744073709551616 by omega),Nat.mod_eq_of_lt (show n < 18446744073709551616 by omega)]
  show IntKind.i64.wrap (((BitVec.ofInt 64 (m:Int)) ^^^ (BitVec.ofInt 64 (n:Int))).toNat:Int)=_
  rw [e]
  exact zam (by omega) (by omega)
theorem zrl {a b:Nat} (ha:a < 256) (hb:b < 256):∀ k,k≤8→(zem a b k).1=((zcC a b k).1:Int)∧(zem a b k).2=((zcC a b k).2:Int)∧(zcC a b k).1 < 256∧(zcC a b k).2 < 256
  | 0,_=>⟨zam (by omega) (by omega),rfl,ha,by show 0 < 256; omega⟩
  | k+1,hk=>by
    obtain ⟨h1,h2,h3,h4⟩:=zrl ha hb k (by omega)
    have w:IntKind.i64.wrap (((zcC a b k).1:Int)*2)=(((zcC a b k).1*2:Nat):Int):=by rw [zam (by omega) (by omega)]; omega
    have hx:(zcC a b k).2 ^^^ (zcC a b k).1 < 256:=znb h4 h3
    have hbk:bits .and .u8 ((b:Int).fdiv (2 ^ min k 8)) 1=((b / 2 ^ k % 2:Nat):Int):=by
      have e:((b:Int).fdiv (2 ^ min k 8))=((b / 2 ^ k:Nat):Int):=by
        rw [show min k 8=k by omega,Int.fdiv_eq_ediv_of_nonneg _ (by exact_mod_cast Nat.zero_le (2 ^ k))]
        simp
      rw [e]
      exact and1 _ (Nat.lt_of_le_of_lt (Nat.div_le_self _ _) hb)
    have hd:∀ x < 256,255 < x*2→(x*2) ^^^ 285 < 256:=by decide+kernel
    show (zoI b k (zem a b k)).1=((zlc b k (zcC a b k)).1:Int)∧(zoI b k (zem a b k)).2=((zlc b k (zcC a b k)).2:Int)∧(zlc b k (zcC a b k)).1 < 256∧(zlc b k (zcC a b k)).2 < 256
    unfold zoI zlc
    rw [h1,h2,hbk,w,zFK _ _ (by omega) (by omega)]
    have hx2:=zFK ((zcC a b k).1*2) 285 (by omega) (by omega)
    refine ⟨?_,?_,?_,?_⟩
    · dsimp only
      split
      · rw [if_pos (by omega)]; exact hx2
      · rw [if_neg (by omega)]
    · dsimp only
      split
      · rw [if_pos (by omega)]
      · rw [if_neg (by omega)]
    · dsimp only
      split
      · exact hd _ h3 (by assumption)
      · omega
    · dsimp only
      split
      · exact hx
      · exact h4
theorem zsR {a b:Nat} (ha:a < 256) (hb:b < 256):zeN a b=((zcC a b 8).2:Int)∧(zcC a b 8).2 < 256:=by
  obtain ⟨_,h2,_,h4⟩:=zrl ha hb 8 (Nat.le_refl _)
  unfold zeN
  rw [h2]
  exact ⟨zwv (by omega) (by omega),h4⟩
def zoJ:Nat→Nat
  | 0=>1
  | k+1=>(zcC (zoJ k) 2 8).2
theorem zsS:∀ k,zd0 k=(zoJ k:Int)∧zoJ k < 256
  | 0=>⟨rfl,by decide⟩
  | k+1=>by
    obtain ⟨h1,h2⟩:=zsS k
    show zeN (zd0 k) 2=((zcC (zoJ k) 2 8).2:Int)∧(zcC (zoJ k) 2 8).2 < 256
    have:=zsR h2 (show 2 < 256 by omega)
    rw [show ((2:Nat):Int)=2 from rfl] at this
    rw [h1]; exact this
theorem zvV:∀ k < 7,∀ x < 256,(zcC x (zoJ k) 8).2=mN x (powN k):=by decide+kernel
theorem zw2 {x:Int} (h:Byt x) {k:Nat} (hk:k < 7):zeN x (zd0 k)=mul8 x (pow8 k):=by
  obtain ⟨m,hm,rfl⟩:=zew h
  obtain ⟨h1,h2⟩:=zsS k
  have e1:=(zsR hm h2).1
  have e2:=(zd7 hm (zhy k)).1
  have e3:=zvV k hk m hm
  rw [h1,zk5,e1,e2,e3]
theorem zA5 {F:Nat→Int→Int} {f:Nat→Int} {ls:List (List Int)} (h:∀ l∈ls,Sec l) (hF:∀ k x,k < ls.length→Byt x→F k x=mul8 x (f k)):∀ {k:Nat},k≤ls.length→sumR F 32 ls k=sumK f 32 ls k
  | 0,_=>rfl
  | k+1,hk=>by
    have hs:=h _ (zdp (show k < ls.length by omega))
    show List.zipWith (fun a x=>xor8 a (F k x)) (sumR F 32 ls k) (ls.getD k [])=List.zipWith xor8 (sumK f 32 ls k) ((ls.getD k []).map (mul8 · (f k)))
    rw [zA5 h hF (by omega),List.zipWith_map_right]
    apply List.ext_getElem?
    intro i
    rw [List.getElem?_zipWith,List.getElem?_zipWith]
    cases e1:(sumK f 32 ls k)[i]? with
    | none=>rfl
    | some a=>
      cases e2:(ls.getD k [])[i]? with
      | none=>rfl
      | some x=>simp only; rw [hF k x (by omega) (hs.byt x (List.mem_of_getElem? e2))]
theorem zCy {ls:List (List Int)} (h:∀ l∈ls,Sec l):refP 32 ls=sumP 32 ls:=by
  have:=zA5 (F:=fun _ x=>x) (f:=fun _=>1) h (fun _ x _ hx=>(zpF hx).symm) (Nat.le_refl ls.length)
  exact this
theorem zCz {ls:List (List Int)} (h:∀ l∈ls,Sec l) (h7:ls.length≤7):refQ 32 ls=sumQ 32 ls:=by
  have:=zA5 (F:=fun k x=>zeN x (zd0 k)) (f:=pow8) h (fun k x hk hx=>zw2 hx (by omega)) (Nat.le_refl ls.length)
  exact this
end Wf

namespace Wf
open Go Go.RowKit Go.Proofs
set_option linter.unusedSimpArgs false
set_option linter.unusedVariables false
set_option maxHeartbeats 4000000
section
variable (g:Geo) (row k n:Int)
theorem zmJ:zcz [.agg [.int .i64 g.l,.int .i64 g.d,.int .i64 g.c],.int .i64 row]=some (.bool (zcH g row)):=by
  rw [zwN]
  unfold ztV
  rw [show D.agg [.int .i64 g.l,.int .i64 g.d,.int .i64 g.c]=gD g.l g.d g.c from rfl,zfD,zac]
  show asI IntKind.i64 (.int .i64 _) _=_
  rw [zbe]
  unfold zcH
  cases h:g.ok
  · have:zeo g.l g.d g.c=false:=h
    simp [this]
  · have:zeo g.l g.d g.c=true:=h
    by_cases h0:0≤row
    · simp [this,h0]
    · simp [this,h0]
theorem zld:zaK [.agg [.int .i64 g.l,.int .i64 g.d,.int .i64 g.c],.int .i64 row]=some (.tup [.int .i64 (parP g row).1,.int .i64 (parP g row).2]):=zvL g row
theorem zrm:zbl [.agg [.int .i64 g.l,.int .i64 g.d,.int .i64 g.c],.int .i64 row,.int .i64 k]=some (.int .i64 (zdH g row k)):=zyY g row k
theorem zle:zaS [.agg [.int .i64 g.l,.int .i64 g.d,.int .i64 g.c]]=some (.int .i64 g.width):=zvK g
theorem zA6:zbi [.agg [.int .i64 g.l,.int .i64 g.d,.int .i64 g.c],.int .i64 row,.int .i64 k]=some (.int .i64 (zdH g row k)):=zCn g row k
theorem zx5:zaz [.agg [.int .i64 g.l,.int .i64 g.d,.int .i64 g.c],.int .i64 row]=some (.tup [.int .i64 (parP g row).1,.int .i64 (parP g row).2]):=zAO g row
theorem zrn:zaq [.agg [.int .i64 g.l,.int .i64 g.d,.int .i64 g.c],.int .i64 row]=some (.bool (zcH g row)):=zuf g row
theorem zoK:zak [.agg [.int .i64 g.l,.int .i64 g.d,.int .i64 g.c]]=some (.int .i64 g.width):=zsO g
end
def zg8 (g:Geo) (row:Int) (ls:List (List Int)):Nat→List Part
  | 0=>List.replicate g.d.toNat (Tag.nil,[])
  | k+1=>(zg8 g row ls k).set (zdH g row (k:Int)).toNat (Tag.fresh,ls.getD k [])
def zy3 (g:Geo) (row:Int) (ls:List (List Int)) (p q:List Int):List Part:=
  if (parP g row).2 < 0 then (zg8 g row ls g.width.toNat).set (parP g row).1.toNat (Tag.fresh,p)
  else ((zg8 g row ls g.width.toNat).set (parP g row).1.toNat (Tag.fresh,p)).set (parP g row).2.toNat (Tag.fresh,q)
theorem zfb (g:Geo) (row:Int) (ls:List (List Int)) (k:Nat):(zg8 g row ls k).length=g.d.toNat:=by
  induction k with
  | zero=>simp [zg8]
  | succ k ih=>simp [zg8,ih]
theorem zsT (g:Geo) (row:Int) (ls:List (List Int)) (k:Nat):∀ x∈zg8 g row ls k,Part.free x=true:=by
  induction k with
  | zero=>intro x hx; rw [(List.mem_replicate.1 hx).2]; rfl
  | succ k ih=>
    intro x hx
    rcases List.mem_or_eq_of_mem_set hx with hx | hx
    · exact ih x hx
    · rw [hx]; rfl
theorem zpN {ps:List Part} (h:∀ x∈ps,Part.free x=true) (i:Nat) (l:List Int):∀ x∈ps.set i (Tag.fresh,l),Part.free x=true:=by
  intro x hx
  rcases List.mem_or_eq_of_mem_set hx with hx | hx
  · exact h x hx
  · rw [hx]; rfl
theorem zja (t:Tag) (l:List D):D.isAgg (.sl t l)=false:=rfl
theorem zx6 (n:Nat):pL (List.replicate n (Tag.nil,[]))=List.replicate n (D.sl .nil []):=by simp [pL,uL]
section
variable {g:Geo} {row:Int} (h:zcH g row=true)
include h
theorem zx7 {ls:List (List Int)} {d:Int} (d0:0≤d) (d1:d < g.d) (h1:d≠(parP g row).1) (h2:d≠(parP g row).2):∀ k:Nat,(k:Int)≤g.width→
    (zg8 g row ls k)[d.toNat]? =some (if zfq g d row < k then (Tag.fresh,ls.getD (zfq g d row).toNat []) else (Tag.nil,[]))
  | 0,_=>by
    obtain ⟨c0,c1,c2⟩:=zla h d0 d1 h1 h2
    unfold zg8
    rw [List.getElem?_replicate,if_pos (by omega),if_neg (by omega)]
  | k+1,hk=>by
    obtain ⟨c0,c1,c2⟩:=zla h d0 d1 h1 h2
    have hdi:=zmh h (k:=(k:Int)) (by omega) (by omega)
    have ih:=zx7 (ls:=ls) d0 d1 h1 h2 k (by omega)
    unfold zg8
    rw [List.getElem?_set]
    by_cases e:zfq g d row=k
    · have e2:zdH g row k=d:=by rw [←e]; exact c2
      rw [if_pos (by rw [e2]),if_pos (by rw [zfb,e2]; omega),if_pos (by omega)]
      congr 3
      rw [e]; rfl
    · have e2:zdH g row k≠d:=fun e2=>e (zvv h c0 c1 (by omega) (by omega) (by rw [c2,e2]))
      rw [if_neg (by omega),ih]
      by_cases hlt:zfq g d row < k
      · rw [if_pos hlt,if_pos (by omega)]
      · rw [if_neg hlt,if_neg (by omega)]
theorem zsU (ls:List (List Int)) (p q:List Int) (hp:p=sumP 32 ls) (hq:q=sumQ 32 ls∨g.l=5):zy3 g row ls p q=fP (zcP g row ls):=by
  obtain ⟨hk,r0,r1⟩:=zbO.1 h
  have hw:=zdb hk
  obtain ⟨p0,p1,p2⟩:=zqT h
  have hpq:=zC9 h
  have hlen:(zy3 g row ls p q).length=g.d.toNat:=by unfold zy3; split<;>simp [zfb]
  apply List.ext_getElem?
  intro i
  by_cases hi:i < g.d.toNat
  · have hr:(fP (zcP g row ls))[i]? =some (Tag.fresh,atR g row ls i):=zvR (zh9 (by omega))
    rw [hr]
    have hbase:∀ d:Int,0≤d→d < g.d→d≠(parP g row).1→d≠(parP g row).2→(zg8 g row ls g.width.toNat)[d.toNat]? =some (Tag.fresh,atR g row ls d):=by
      intro d d0 d1 n1 n2
      obtain ⟨c0,c1,c2⟩:=zla h d0 d1 n1 n2
      rw [zx7 h d0 d1 n1 n2 _ (by omega),if_pos (by omega)]
      unfold atR
      rw [if_neg n1,if_neg n2]
    unfold zy3
    by_cases e1:(i:Int)=(parP g row).1
    · have ha:atR g row ls i=p:=by rw [e1,at_p h,hp]
      rw [ha]
      split
      · rw [List.getElem?_set,if_pos (by omega),if_pos (by rw [zfb]; omega)]
      · rw [List.getElem?_set,if_neg (by omega),List.getElem?_set,if_pos (by omega),if_pos (by rw [zfb]; omega)]
    · by_cases e2:(i:Int)=(parP g row).2
      · have ha:atR g row ls i=sumQ 32 ls:=by rw [e2,at_q h]
        have h6:¬ (parP g row).2 < 0:=by omega
        rw [ha,if_neg h6,List.getElem?_set,if_pos (by omega),if_pos (by rw [List.length_set,zfb]; omega)]
        rcases hq with hq | hq
        · rw [hq]
        · rcases p2 with ⟨e,_⟩ | ⟨_,_,e⟩<;>omega
      · have:=hbase i (by omega) (by omega) e1 e2
        rw [Int.toNat_natCast] at this
        split
        · rw [List.getElem?_set,if_neg (by omega),this]
        · rw [List.getElem?_set,if_neg (by omega),List.getElem?_set,if_neg (by omega),this]
  · rw [List.getElem?_eq_none (by omega),List.getElem?_eq_none (by simp [zlb]; omega)]
end
theorem zCA (t:Tag) (l:List Int):zap [.sl t (uL l)]=some (.bool (!decide (l.length=32))):=by
  rw [znt,zcW]
  unfold zgV
  simp only [zdF]
  congr 2
  by_cases h:l.length=32
  · simp [h]
  · simp [h]; omega
theorem zoL (tg:Tag) (ps:List Part) (hn:ps.length < 100000):
    ∃ r,zah [.sl tg (pL ps),.fn ID.row_sectors_1 [] []]=some r∧∃ i:Int,r=.int .i64 i∧decide (i≥0)= !(ps.all fun x=>decide (x.2.length=32)):=by
  rw [zdI,zcZ]
  have hm:(ps.all fun x=>decide (x.2.length=32))=((ps.map fun x=>(zbW x.1 x.2,x.2)).all fun x=>decide (x.2.length=32)):=by rw [List.all_map]; rfl
  have hlen:(ps.map fun x=>(zbW x.1 x.2,x.2)).length=ps.length:=by simp
  rw [hm]
  rw [←hlen] at hn
  generalize (ps.map fun x=>(zbW x.1 x.2,x.2))=rs at*
  unfold zb1
  refine zxI (fun a=>(rs.length:Nat) - a.1.2.2.1.toNat) (fun r=>∃ i:Int,r=D.int .i64 i∧decide (i≥0)= !(rs.all fun x=>decide (x.2.length=32)))
    (fun a=>∃ k:Nat,k≤rs.length∧((rs.take k).all fun x=>decide (x.2.length=32))=true∧a=((pL rs,(rs.length:Int),(k:Int),PUnit.unit),PUnit.unit)) ?_ ⟨0,by omega,by simp,by rw [zvP]; rfl⟩ (by simp; omega)
  rintro again _ ⟨k,hk,he,rfl⟩ hag
  dsimp only
  by_cases hkm:k < rs.length
  · obtain ⟨x,hx⟩:∃ x,rs[k]? =some x:=⟨_,List.getElem?_eq_getElem hkm⟩
    have hd:decide ((k:Int) < (rs.length:Int))=true:=by simp; omega
    rw [hd,za1,zaa (by omega),zai (by simpa using zcJ hx),zeU,zCA,zac,zcr]
    by_cases hf:x.2.length=32
    · simp only [hf,decide_true,Bool.not_true,zas,zaJ]
      rw [zam (by omega) (by omega)]
      refine hag _ ⟨k+1,by omega,?_,rfl⟩ (by simp; omega)
      rw [List.take_add_one,hx,List.all_append,he]
      simp [hf]
    · simp only [hf,decide_false,Bool.not_false,za1]
      refine ⟨_,rfl,_,rfl,?_⟩
      have:(rs.all fun x=>decide (x.2.length=32))=false:=by
        rw [List.all_eq_false]
        exact ⟨x,List.mem_of_getElem? hx,by simp [hf]⟩
      rw [this]
      simp
  · have hd:decide ((k:Int) < (rs.length:Int))=false:=by simp; omega
    rw [hd,zas]
    refine ⟨_,rfl,_,rfl,?_⟩
    rw [List.take_of_length_le (by omega)] at he
    rw [he]
    rfl
theorem row_sectors (tg:Tag) (ps:List Part) (hn:ps.length < 100000):zb8 [.sl tg (pL ps)]=some (.bool (ps.all fun x=>decide (x.2.length=32))):=by
  rw [zpx,zcZ]
  have hm:(ps.all fun x=>decide (x.2.length=32))=((ps.map fun x=>(zbW x.1 x.2,x.2)).all fun x=>decide (x.2.length=32)):=by rw [List.all_map]; rfl
  have hlen:(ps.map fun x=>(zbW x.1 x.2,x.2)).length=ps.length:=by simp
  rw [hm]
  rw [←hlen] at hn
  generalize (ps.map fun x=>(zbW x.1 x.2,x.2))=rs at*
  unfold ziW
  have:zaf [.sl .lent (pL rs),.fn ID.row_sectors_1 [] []]=some (.bool (!(rs.all fun x=>decide (x.2.length=32)))):=by
    rw [zdq,zcZ]
    have hm:(rs.all fun x=>decide (x.2.length=32))=((rs.map fun x=>(zbW x.1 x.2,x.2)).all fun x=>decide (x.2.length=32)):=by rw [List.all_map]; rfl
    have hlen:(rs.map fun x=>(zbW x.1 x.2,x.2)).length=rs.length:=by simp
    rw [hm]
    rw [←hlen] at hn
    generalize (rs.map fun x=>(zbW x.1 x.2,x.2))=qs at*
    unfold zbP
    obtain ⟨r,h1,i,rfl,h2⟩:=zoL .lent qs hn
    rw [h1,zac,zbe,h2]
  rw [this,zac,zcr,Bool.not_not]
theorem zx8 (g:Geo) (row:Int) (tg:Tag) {ps:List Part} (hn:ps.length < 100000):
    zbS [.agg [.int .i64 g.l,.int .i64 g.d,.int .i64 g.c],.int .i64 row,.sl tg (pL ps)]=some (solD (ztR g row (ps.map (·.2)))):=by
  rw [zud,zcZ]
  have hlen:(ps.map fun x=>(zbW x.1 x.2,x.2)).length=ps.length:=by simp
  have hm:(ps.map fun x=>(zbW x.1 x.2,x.2)).map (·.2)=ps.map (·.2):=by rw [List.map_map]; rfl
  rw [←hlen] at hn
  rw [←hm]
  generalize (ps.map fun x=>(zbW x.1 x.2,x.2))=rs at*
  clear hm hlen ps
  unfold zou ztR
  cases h:zcH g row
  · simp [zmJ,h,solD]
  by_cases hl:(rs.length:Int)=g.width
  · have hall:((rs.map (·.2)).all fun x=>decide (x.length=32))=(rs.all fun x=>decide (x.2.length=32)):=by rw [List.all_map]; rfl
    rw [hall]
    cases hs:(rs.all fun x=>decide (x.2.length=32))
    · simp [zmJ,h,solD,zle,hl,row_sectors _ _ hn,hs]
    · have hl':∀ x∈rs,x.2.length=32:=fun x hx=>by rw [List.all_eq_true] at hs; simpa using hs x hx
      rw [if_pos ⟨rfl,by simp [hl],rfl⟩]
      obtain ⟨hk,r0,r1⟩:=zbO.1 h
      have hw:=zdb hk
      have hdd:=ok_d hk
      have hb:((((pL rs).length:Nat):Int) != g.width)=false:=by simp [hl]
      have hrl:rs.length=g.width.toNat:=by omega
      rw [zmJ,zac,zcr,h,Bool.not_true,zas,zle,zac,zbe,hb,zas,row_sectors _ _ hn,zac,zcr,hs,Bool.not_true,zas,zaa (by omega),zaa (by rfl),zaa (by omega),zaa (by omega),zaa (by simp)]
      let st:Nat→(Int×List D×(Int×Int×Int×PUnit)×List D×List D×Int×Int×PUnit)×PUnit:=fun k=>((row,pL rs,(g.l,g.d,g.c,PUnit.unit),pL (zg8 g row (rs.map (·.2)) k),pL rs,((pL rs).length:Int),(k:Int),PUnit.unit),PUnit.unit)
      have hst:st 0=((row,pL rs,(g.l,g.d,g.c,PUnit.unit),List.replicate g.d.toNat (D.sl .nil []),pL rs,((pL rs).length:Int),0,PUnit.unit),PUnit.unit):=by
        simp only [st,zg8,zx6]; rfl
      rw [←hst]
      refine zcG st rs.length (by omega) ?_ ?_
      · intro again k hk'
        dsimp only [st]
        obtain ⟨x,hx⟩:∃ x,rs[k]? =some x:=⟨_,List.getElem?_eq_getElem hk'⟩
        have hxs:=hl' x (List.mem_of_getElem? hx)
        have hxe:rs[k]=x:=by rw [List.getElem?_eq_getElem hk'] at hx; exact Option.some.inj hx
        have hdi:=zmh h (k:=(k:Int)) (by omega) (by omega)
        have hfl:=zfb g row (rs.map (·.2)) k
        obtain ⟨y,hy⟩:∃ y,(zg8 g row (rs.map (·.2)) k)[(zdH g row (k:Int)).toNat]? =some y:=⟨_,List.getElem?_eq_getElem (by omega)⟩
        have hgd:(rs.map (·.2)).getD k []=x.2:=by simp [List.getD_eq_getElem?_getD,hx]
        have hgx:(pL rs)[k]? =some (.sl x.1 (uL x.2)):=zcJ hx
        have hlt:(zdH g row (k:Int)).toNat < g.d.toNat:=by omega
        simp (disch:=first | omega | assumption | (simp; done) | fail) [-List.all_eq_true,hk',zai hgx,zrm,zri (show x.2.length≤4294967296 by omega),hdi.1,hfl,hlt,zai (zcJ hy),zja,zam,zpb,zg8]
        rw [hxe]
      · intro again
        dsimp only [st]
        obtain ⟨p0,p1,p2⟩:=zqT h
        have hfl:=zfb g row (rs.map (·.2)) rs.length
        obtain ⟨y,hy⟩:∃ y,(zg8 g row (rs.map (·.2)) rs.length)[(parP g row).1.toNat]? =some y:=⟨_,List.getElem?_eq_getElem (by omega)⟩
        have hrp:=zAY (n:=32) .lent (ps:=rs) (by omega) (by omega) (by omega) hl'
        have hrq:=zAZ (n:=32) .lent (ps:=rs) (by omega) (by omega) (by omega) hl'
        have hff:=zsU h (rs.map (·.2)) (sumP 32 (rs.map (·.2))) (sumQ 32 (rs.map (·.2))) rfl (.inl rfl)
        have hfree:=zpN (zsT g row (rs.map (·.2)) rs.length) (parP g row).1.toNat (sumP 32 (rs.map (·.2)))
        have hfree2:=zpN hfree (parP g row).2.toNat (sumQ 32 (rs.map (·.2)))
        have hlt:(parP g row).1.toNat < g.d.toNat:=by omega
        unfold zy3 at hff
        rw [←hrl] at hff
        rcases p2 with ⟨p2,_⟩ | ⟨q0,q1,_⟩
        · rw [if_pos (by omega)] at hff
          have hq:¬ (0≤(parP g row).2):=by omega
          simp (disch:=first | omega | assumption | (simp; done) | fail) [-List.all_eq_true,zld,hrp,p0,hfl,hlt,zai (zcJ hy),zja,hq,zpb,zkQ hfree,solD,hff,zf3]
        · rw [if_neg (by omega)] at hff
          have hlt2:(parP g row).2.toNat < g.d.toNat:=by omega
          obtain ⟨z,hz⟩:∃ z,((zg8 g row (rs.map (·.2)) rs.length).set (parP g row).1.toNat (Tag.fresh,sumP 32 (rs.map (·.2))))[(parP g row).2.toNat]? =some z:=⟨_,List.getElem?_eq_getElem (by simp [hfl]; omega)⟩
          simp (disch:=first | omega | assumption | (simp; done) | fail) [-List.all_eq_true,zld,hrp,hrq,p0,q0,hfl,hlt,hlt2,zai (zcJ hy),zai (zcJ hz),zja,zpb,zkQ hfree,zkQ hfree2,solD,hff,zf3]
  · have h2:¬ (true=true∧(((rs.map (·.2)).length:Nat):Int)=g.width∧((rs.map (·.2)).all fun x=>decide (x.length=32))=true):=by rintro ⟨_,e,_⟩; simp at e; exact hl e
    rw [if_neg h2]
    simp [zmJ,h,solD,zle,hl]
end Wf

namespace Wf
open Go Go.RowKit Go.Proofs
set_option linter.unusedSimpArgs false
set_option linter.unusedVariables false
set_option maxHeartbeats 4000000
def zfG (g:Geo) (row:Int) (rs:List Part) (k:Nat):List Part:=(List.range k).map fun (j:Nat)=>rs.getD (zdH g row (j:Int)).toNat (.nil,[])
theorem zvW (g:Geo) (row:Int) (rs:List Part):(zfG g row rs g.width.toNat).map (·.2)=zfY g row (rs.map (·.2)):=by
  unfold zfG zfY
  rw [List.map_map]
  apply List.map_congr_left
  intro j _
  simp [List.getD_eq_getElem?_getD]
  cases rs[(zdH g row (j:Int)).toNat]? <;>rfl
theorem zuk (g:Geo) (row:Int) (rs:List Part) {k:Nat} {x:Part} (h:rs[(zdH g row (k:Int)).toNat]? =some x):zfG g row rs (k+1)=zfG g row rs k++[x]:=by
  unfold zfG
  rw [List.range_succ,List.map_append]
  simp [List.getD_eq_getElem?_getD,h]
theorem zro {R:Type} (a b:D) (f:LfT [.any,.any]→Option R):zaw [.any,.any] [a,b] f=f (a,b,()):=by rw [zc3,zc3,zdS]
theorem zCB (g:Geo) (row:Int) (tg:Tag) {ps:List Part} (hn:ps.length < 100000):
    zc0 [.agg [.int .i64 g.l,.int .i64 g.d,.int .i64 g.c],.int .i64 row,.sl tg (pL ps)]=some (solD (zrz g row (ps.map (·.2)))):=by
  rw [zt9,zcZ]
  have hm:(ps.map fun x=>(zbW x.1 x.2,x.2)).map (·.2)=ps.map (·.2):=by rw [List.map_map]; rfl
  have hlen:(ps.map fun x=>(zbW x.1 x.2,x.2)).length=ps.length:=by simp
  rw [←hm]
  rw [←hlen] at hn
  generalize (ps.map fun x=>(zbW x.1 x.2,x.2))=rs at*
  clear hm hlen ps
  unfold zor zrz
  cases h:zcH g row
  · simp [zmJ,h,solD]
  by_cases hl:(rs.length:Int)=g.d
  · rw [if_pos ⟨rfl,by simp [hl]⟩]
    have hk:=(zbO.1 h).1
    have hw:=zdb hk
    have hdd:=ok_d hk
    have hb:((((pL rs).length:Nat):Int) != g.d)=false:=by simp [hl]
    rw [zmJ,zac,zcr,h,Bool.not_true,zas,hb,zas,zle,zac,zbe]
    let st:Nat→(Int×List D×(Int×Int×Int×PUnit)×List D×Int×Int×PUnit)×PUnit:=fun k=>((row,pL rs,(g.l,g.d,g.c,PUnit.unit),pL (zfG g row rs k),g.width,(k:Int),PUnit.unit),PUnit.unit)
    have hst:st 0=((row,pL rs,(g.l,g.d,g.c,PUnit.unit),[],g.width,0,PUnit.unit),PUnit.unit):=rfl
    rw [←hst]
    refine zcG st g.width.toNat (by omega) ?_ ?_
    · intro again k hk'
      dsimp only [st]
      have hd:(k:Int) < g.width:=by omega
      have hdi:=zmh h (k:=(k:Int)) (by omega) (by omega)
      obtain ⟨x,hx⟩:∃ x,rs[(zdH g row (k:Int)).toNat]? =some x:=⟨_,List.getElem?_eq_getElem (by omega)⟩
      have hpl:(zfG g row rs k).length=k:=by simp [zfG]
      simp (disch:=first | omega | assumption | (simp; done) | fail) [-List.all_eq_true,hd,zrm,hdi.1,zai (zcJ hx),hpl,zam,zAX,zuk g row rs hx]
    · intro again
      dsimp only [st]
      have hd:¬ ((g.width.toNat:Nat):Int) < g.width:=by omega
      obtain ⟨p0,p1,p2⟩:=zqT h
      obtain ⟨xp,hxp⟩:∃ x,rs[(parP g row).1.toNat]? =some x:=⟨_,List.getElem?_eq_getElem (by omega)⟩
      have hpo:pOf g row (rs.map (·.2))=xp.2:=by unfold pOf; simp [List.getD_eq_getElem?_getD,hxp]
      have hrl:(zfG g row rs g.width.toNat).length < 100000:=by simp [zfG]; omega
      have hsol:=fun tq q=>zCw xp.1 tq .lent xp.2 q hrl
      rw [zvW] at hsol
      rw [hpo]
      rcases p2 with ⟨p2,_⟩ | ⟨q0,q1,_⟩
      · have hqo:qOf g row (rs.map (·.2))=[]:=by unfold qOf; rw [if_pos (by omega)]
        have hq:(parP g row).2 < 0:=by omega
        have hs:=hsol .nil []
        rw [show uL []=([]:List D) from rfl] at hs
        rw [hqo]
        simp (disch:=first | omega | assumption | (simp; done) | fail) [-List.all_eq_true,zoH,hd,zld,hq,p0,zai (zcJ hxp),hs]
        cases zj9 xp.2 [] (zfY g row (rs.map (·.2)))<;>simp [-List.all_eq_true,solD,zf3]
      · obtain ⟨xq,hxq⟩:∃ x,rs[(parP g row).2.toNat]? =some x:=⟨_,List.getElem?_eq_getElem (by omega)⟩
        have hqo:qOf g row (rs.map (·.2))=xq.2:=by unfold qOf; rw [if_neg (by omega)]; simp [List.getD_eq_getElem?_getD,hxq]
        have hq:¬ (parP g row).2 < 0:=by omega
        rw [hqo]
        simp (disch:=first | omega | assumption | (simp; done) | fail) [-List.all_eq_true,zoH,hd,zld,hq,p0,q0,zai (zcJ hxp),zai (zcJ hxq),hsol]
        cases zj9 xp.2 xq.2 (zfY g row (rs.map (·.2)))<;>simp [-List.all_eq_true,solD,zf3]
  · have h2:¬ (true=true∧(((rs.map (·.2)).length:Nat):Int)=g.d):=by rintro ⟨_,e⟩; simp at e; exact hl e
    rw [if_neg h2]
    simp [zmJ,h,solD,hl]
theorem zCC (g:Geo) (row:Int) (tg:Tag) {ps:List Part} (hn:ps.length < 100000) (hs:∀ x∈ps,Sec x.2):
    zbo [.agg [.int .i64 g.l,.int .i64 g.d,.int .i64 g.c],.int .i64 row,.sl tg (pL ps)]=some (solD (ztR g row (ps.map (·.2)))):=by
  rw [zkH,zcZ]
  have hlen:(ps.map fun x=>(zbW x.1 x.2,x.2)).length=ps.length:=by simp
  have hm:(ps.map fun x=>(zbW x.1 x.2,x.2)).map (·.2)=ps.map (·.2):=by rw [List.map_map]; rfl
  have hs':∀ x∈(ps.map fun x=>(zbW x.1 x.2,x.2)),Sec x.2:=by intro x hx; obtain ⟨y,hy,rfl⟩:=List.mem_map.1 hx; exact hs y hy
  rw [←hlen] at hn
  rw [←hm]
  generalize (ps.map fun x=>(zbW x.1 x.2,x.2))=rs at*
  clear hm hlen hs ps
  unfold ze6 ztR
  have hsl:∀ x∈rs.map (·.2),Sec x:=by intro x hx; obtain ⟨y,hy,rfl⟩:=List.mem_map.1 hx; exact hs' y hy
  have hl':∀ x∈rs,x.2.length=32:=fun x hx=>(hs' x hx).len
  have hall:((rs.map (·.2)).all fun x=>decide (x.length=32))=true:=by rw [List.all_eq_true]; intro x hx; simpa using (hsl x hx).len
  cases h:zcH g row
  · simp [zrn,h,solD]
  by_cases hl:(rs.length:Int)=g.width
  · rw [if_pos ⟨rfl,by simp [hl],hall⟩]
    obtain ⟨hk,r0,r1⟩:=zbO.1 h
    have hw:=zdb hk
    have hdd:=ok_d hk
    have hb:((((pL rs).length:Nat):Int) != g.width)=false:=by simp [hl]
    have hrl:rs.length=g.width.toNat:=by omega
    rw [zrn,zac,zcr,h,Bool.not_true,zas,zoK,zac,zbe,hb,zas,zaa (by omega),zaa (by rfl),zaa (by omega),zaa (by omega),zaa (by simp)]
    let st:Nat→(Int×List D×(Int×Int×Int×PUnit)×List D×List D×Int×Int×PUnit)×PUnit:=fun k=>((row,pL rs,(g.l,g.d,g.c,PUnit.unit),pL (zg8 g row (rs.map (·.2)) k),pL rs,((pL rs).length:Int),(k:Int),PUnit.unit),PUnit.unit)
    have hst:st 0=((row,pL rs,(g.l,g.d,g.c,PUnit.unit),List.replicate g.d.toNat (D.sl .nil []),pL rs,((pL rs).length:Int),0,PUnit.unit),PUnit.unit):=by
      simp only [st,zg8,zx6]; rfl
    rw [←hst]
    refine zcG st rs.length (by omega) ?_ ?_
    · intro again k hk'
      dsimp only [st]
      obtain ⟨x,hx⟩:∃ x,rs[k]? =some x:=⟨_,List.getElem?_eq_getElem hk'⟩
      have hxs:=hl' x (List.mem_of_getElem? hx)
      have hxe:rs[k]=x:=by rw [List.getElem?_eq_getElem hk'] at hx; exact Option.some.inj hx
      have hdi:=zmh h (k:=(k:Int)) (by omega) (by omega)
      have hfl:=zfb g row (rs.map (·.2)) k
      obtain ⟨y,hy⟩:∃ y,(zg8 g row (rs.map (·.2)) k)[(zdH g row (k:Int)).toNat]? =some y:=⟨_,List.getElem?_eq_getElem (by omega)⟩
      have hgd:(rs.map (·.2)).getD k []=x.2:=by simp [List.getD_eq_getElem?_getD,hx]
      have hgx:(pL rs)[k]? =some (.sl x.1 (uL x.2)):=zcJ hx
      have hlt:(zdH g row (k:Int)).toNat < g.d.toNat:=by omega
      simp (disch:=first | omega | assumption | (simp; done) | fail) [-List.all_eq_true,hk',zai hgx,zA6,hxs,hdi.1,hfl,hlt,zai (zcJ hy),zja,zam,zpb,zg8]
      rw [hxe]
    · intro again
      dsimp only [st]
      obtain ⟨p0,p1,p2⟩:=zqT h
      have hfl:=zfb g row (rs.map (·.2)) rs.length
      obtain ⟨y,hy⟩:∃ y,(zg8 g row (rs.map (·.2)) rs.length)[(parP g row).1.toNat]? =some y:=⟨_,List.getElem?_eq_getElem (by omega)⟩
      have hrp:=zGs (n:=32) .lent (ps:=rs) (by omega) (by omega) (by omega) hl'
      have hrq:=zGt (n:=32) .lent (ps:=rs) (by omega) (by omega) (by omega) hl'
      rw [zCy hsl] at hrp
      rw [zCz hsl (by simp; omega)] at hrq
      have hff:=zsU h (rs.map (·.2)) (sumP 32 (rs.map (·.2))) (sumQ 32 (rs.map (·.2))) rfl (.inl rfl)
      have hfree:=zpN (zsT g row (rs.map (·.2)) rs.length) (parP g row).1.toNat (sumP 32 (rs.map (·.2)))
      have hfree2:=zpN hfree (parP g row).2.toNat (sumQ 32 (rs.map (·.2)))
      have hlt:(parP g row).1.toNat < g.d.toNat:=by omega
      unfold zy3 at hff
      rw [←hrl] at hff
      rcases p2 with ⟨p2,_⟩ | ⟨q0,q1,_⟩
      · rw [if_pos (by omega)] at hff
        have hq:¬ (0≤(parP g row).2):=by omega
        simp (disch:=first | omega | assumption | (simp; done) | fail) [-List.all_eq_true,zx5,hrp,p0,hfl,hlt,zai (zcJ hy),zja,hq,zpb,zkQ hfree,solD,hff,zf3]
      · rw [if_neg (by omega)] at hff
        have hlt2:(parP g row).2.toNat < g.d.toNat:=by omega
        obtain ⟨z,hz⟩:∃ z,((zg8 g row (rs.map (·.2)) rs.length).set (parP g row).1.toNat (Tag.fresh,sumP 32 (rs.map (·.2))))[(parP g row).2.toNat]? =some z:=⟨_,List.getElem?_eq_getElem (by simp [hfl]; omega)⟩
        simp (disch:=first | omega | assumption | (simp; done) | fail) [-List.all_eq_true,zx5,hrp,hrq,p0,q0,hfl,hlt,hlt2,zai (zcJ hy),zai (zcJ hz),zja,zpb,zkQ hfree,zkQ hfree2,solD,hff,zf3]
  · have h2:¬ (true=true∧(((rs.map (·.2)).length:Nat):Int)=g.width∧((rs.map (·.2)).all fun x=>decide (x.length=32))=true):=by rintro ⟨_,e,_⟩; simp at e; exact hl e
    rw [if_neg h2]
    simp [zrn,h,solD,zoK,hl]
end Wf

namespace Wf
open Go Go.RowKit Go.Proofs
set_option linter.unusedSimpArgs false
set_option linter.unusedVariables false
set_option maxHeartbeats 4000000
theorem ziw (live:List Bool):D.lentL (live.map D.bool)=live.map D.bool:=by
  induction live with
  | nil=>rfl
  | cons x l ih=>simp [ih]
theorem znO (acts:Nat→List Act):∀ (n k:Nat) (B:Ben),runE (fun k B=>runA (acts k) B) k n B=runA ((List.range' k n).flatMap acts) B
  | 0,k,B=>rfl
  | n+1,k,B=>by
    rw [List.range'_succ,List.flatMap_cons,zme]
    show (if (runA (acts k) B).1=0 then _ else _)=_
    rw [znO acts n (k+1)]
theorem zlf (a:Act) (B:Ben):runA [a] B=B.act a:=by
  rw [zqQ]
  by_cases h:(B.act a).1=0
  · rw [if_pos h]
    show (0,(B.act a).2)=B.act a
    rw [←h]
  · rw [if_neg h]
section
variable {B:Ben} {d a e:Int} {x:List Int}
theorem zrp {s:DS} (hd:B.is d=true) (hf:s.failed=(B.dk d).failed):(B.setD d s).failed e=B.failed e:=by
  unfold Ben.failed
  rw [zwG]
  cases he:B.is e
  · rfl
  · rw [zfp hd (zdw.1 he).1]
    split
    · rename_i q; subst q; rw [hf]
    · rfl
theorem zsV (B:Ben) (d a:Int) (x:List Int):(B.write d a x).2.n=B.n∧∀ e,(B.write d a x).2.failed e=B.failed e:=by
  unfold Ben.write
  split
  · exact ⟨rfl,fun _=>rfl⟩
  · rename_i h0
    have hd:=(may0.1 (Classical.not_not.1 h0)).1
    split
    · exact ⟨rfl,fun _=>rfl⟩
    · split
      · exact ⟨rfl,fun _=>rfl⟩
      · exact ⟨by simp,fun e=>zrp (B:=(B.junk _).less) hd rfl⟩
theorem zy4 (hB:B.Ok) (d:Int):(B.flush d).2.n=B.n∧∀ e,(B.flush d).2.failed e=B.failed e:=by
  unfold Ben.flush
  split
  · exact ⟨rfl,fun _=>rfl⟩
  · rename_i h0
    have hd:=(may0.1 (Classical.not_not.1 h0)).1
    refine ⟨by simp,fun e=>zrp hd ?_⟩
    unfold DS.flush
    split
    · rfl
    · exact zlM (zmc hB d).1
def Like (B B':Ben):Prop:=B'.n=B.n∧∀ e,B'.failed e=B.failed e
theorem Like.refl (B:Ben):Like B B:=⟨rfl,fun _=>rfl⟩
theorem Like.trans {A B C:Ben} (h1:Like A B) (h2:Like B C):Like A C:=⟨h2.1.trans h1.1,fun e=>(h2.2 e).trans (h1.2 e)⟩
theorem Like.up {B B':Ben} (h:Like B B') (live:List Bool) (e:Int):B'.up live e=B.up live e:=by unfold Ben.up; rw [h.1,h.2]
end
section
variable {T0 T1:Tb} {b:Nat} {idx:List Nat} {B:Ben}
theorem zvX (h:At T0 T1 b idx B) (hw:B.w≤999000) (tg:Tag) (live:List Bool) (g:Geo) (r:Int) (tg2:Tag) {ps:List Part} (hn:ps.length < 100000) (hs:∀ x∈ps,Sec x.2):
    zhL [.h kB b 0,.sl tg (live.map D.bool),.agg [.int .i64 g.l,.int .i64 g.d,.int .i64 g.c],.int .i64 r,.sl tg2 (pL ps)] [P0 T0 b idx B,P1 T1 idx B]=
      some (Ans.mk (.int .i64 (B.sWrite live g r (ps.map (·.2))).1) [] [P0 T0 b idx (B.sWrite live g r (ps.map (·.2))).2,P1 T1 idx (B.sWrite live g r (ps.map (·.2))).2]):=by
  rw [zoC,ziw,zcZ]
  have hlen:(ps.map fun x=>(zbW x.1 x.2,x.2)).length=ps.length:=by simp
  have hm:(ps.map fun x=>(zbW x.1 x.2,x.2)).map (·.2)=ps.map (·.2):=by rw [List.map_map]; rfl
  have hs':∀ x∈(ps.map fun x=>(zbW x.1 x.2,x.2)),Sec x.2:=by intro x hx; obtain ⟨y,hy,rfl⟩:=List.mem_map.1 hx; exact hs y hy
  rw [←hlen] at hn
  rw [←hm]
  generalize (ps.map fun x=>(zbW x.1 x.2,x.2))=rs at*
  clear hm hlen hs ps
  unfold zhM Ben.sWrite
  have hfill:=zx8 g r .lent hn
  cases hf:ztR g r (rs.map (·.2)) with
  | none=>
    rw [hf] at hfill
    simp [hfill,solD]
  | some o=>
    have hf0:=hf
    unfold ztR at hf0
    split at hf0
    rotate_left
    · cases hf0
    rename_i hc
    obtain ⟨hr,hlw,hall⟩:=hc
    cases hf0
    have hR:Row g (rs.map (·.2)):=⟨hlw,by intro x hx; obtain ⟨y,hy,rfl⟩:=List.mem_map.1 hx; exact hs' y hy⟩
    generalize rs.map (·.2)=data at*
    rw [hf] at hfill
    obtain ⟨hk,r0,r1⟩:=zbO.1 hr
    have hdd:=ok_d hk
    rw [if_neg (by simp)]
    have hrl:=zlb g r data
    let acts:Nat→List Act:=fun d=>if B.up live d then [.w d (36+r) (atR g r data d)] else []
    have hacts:B.wActs live g r data=(List.range' 0 g.d.toNat).flatMap acts:=by unfold Ben.wActs; rw [List.range_eq_range']
    rw [hacts,←znO]
    let st:Nat→Ben→(Nat×List D×Int×List D×Int×Int×PUnit)×List (List D)×List (List D)×PUnit:=fun k B'=>((b,live.map D.bool,r,pL (fP (zcP g r data)),(g.d.toNat:Int),(k:Int),PUnit.unit),P0 T0 b idx B',P1 T1 idx B',PUnit.unit)
    have hst:st 0 B=((b,live.map D.bool,r,pL (fP (zcP g r data)),(g.d.toNat:Int),0,PUnit.unit),P0 T0 b idx B,P1 T1 idx B,PUnit.unit):=rfl
    simp (disch:=first | omega | assumption | (simp; done) | fail) only [hfill,solD,zac,zh6,zro,zbF,zcr,Bool.not_true,zas,zaa,Nat.zero_add,Nat.le_refl,zvP,zA3,hrl]
    rw [←hst]
    refine zqO (fun k B'=>runA (acts k) B') (fun k B'=>Nx k B B'∧Like B B') st (fun y=>some (Ans.mk (.int .i64 y.1) [] [P0 T0 b idx y.2,P1 T1 idx y.2])) g.d.toNat (by omega) ⟨.rfl' h.ok (by omega),.refl B⟩ ?_ ?_ ?_
    · rintro k B' hk' ⟨hx,hL⟩ he
      dsimp only [acts] at he ⊢
      have hsec:=zvw hr hR (d:=(k:Int)) (by omega) (by omega)
      cases hu:B.up live (k:Int)
      · exact ⟨hx.mono (by omega),hL⟩
      · rw [if_pos rfl,zlf]
        exact ⟨(hx.trans (zxR hx.ok (.inl hsec))).mono (by omega),hL.trans (zsV ..)⟩
    · rintro again k B' hk' ⟨hx,hL⟩
      dsimp only [st]
      have hA:=h.nx hx
      have hxw:=hx.w
      have hw':B'.w≤1000000:=by omega
      have hg:(pL (fP (zcP g r data)))[k]? =some (.sl .fresh (uL (atR g r data k))):=zcJ (zvR (zh9 (by omega)))
      have hup:=zEj hA .lent live (d:=(k:Int)) (by omega)
      rw [hL.up] at hup
      by_cases hu:B.up live (k:Int)=true
      rotate_left
      · have hu':B.up live (k:Int)=false:=by simpa using hu
        rw [hu'] at hup
        rw [show acts k=[] from if_neg hu]
        simp (disch:=first | omega | assumption | (simp; done) | fail) [hk',hrl,zai hg,hup,zam,runA]
      · rw [hu] at hup
        rw [show acts k=[.w k (36+r) (atR g r data k)] from if_pos hu,zlf]
        have hwr:=zAV hA hw' (k:Int) (36+r) .fresh (atR g r data k)
        by_cases he:(B'.write k (36+r) (atR g r data k)).1=0
        · simp (disch:=first | omega | assumption | (simp; done) | fail) [hk',hrl,zai hg,hup,zam,hwr,he,Ben.act]
        · simp (disch:=first | omega | assumption | (simp; done) | fail) [hk',hrl,zai hg,hup,zam,hwr,he,Ben.act]
    · rintro again B' ⟨hx,hL⟩
      dsimp only [st]
      simp
theorem zvY (h:At T0 T1 b idx B) (hw:B.w≤999000) (tg:Tag) (live:List Bool):
    zhN [.h kB b 0,.sl tg (live.map D.bool)] [P0 T0 b idx B,P1 T1 idx B]=some (Ans.mk (.int .i64 (B.sFlush live).1) [] [P1 T1 idx (B.sFlush live).2]):=by
  rw [zoD,ziw]
  unfold zhO Ben.sFlush
  let acts:Nat→List Act:=fun d=>if B.up live d then [.f d] else []
  have hacts:B.fActs live=(List.range' 0 B.ds.length).flatMap acts:=by unfold Ben.fActs; rw [List.range_eq_range']
  have hsm:=h.ok.small
  rw [hacts,←znO]
  let st:Nat→Ben→(Nat×List D×Int×Int×PUnit)×List (List D)×List (List D)×PUnit:=fun k B'=>((b,live.map D.bool,(B.ds.length:Int),(k:Int),PUnit.unit),P0 T0 b idx B,P1 T1 idx B',PUnit.unit)
  have hst:st 0 B=((b,live.map D.bool,(B.ds.length:Int),0,PUnit.unit),P0 T0 b idx B,P1 T1 idx B,PUnit.unit):=rfl
  have hl:=zy0 h
  unfold Ben.n at hl
  simp (disch:=first | omega | assumption | (simp; done) | fail) only [hl,zac,zbE,zbe]
  rw [←hst]
  refine zqO (fun k B'=>runA (acts k) B') (fun k B'=>Nx 0 B B'∧Like B B'∧P0 T0 b idx B'=P0 T0 b idx B) st (fun y=>some (Ans.mk (.int .i64 y.1) [] [P1 T1 idx y.2])) B.ds.length (by omega) ⟨.rfl' h.ok (by omega),.refl B,rfl⟩ ?_ ?_ ?_
  · rintro k B' hk' ⟨hx,hL,h0⟩ he
    dsimp only [acts] at he ⊢
    cases hu:B.up live (k:Int)
    · exact ⟨hx,hL,h0⟩
    · rw [if_pos rfl,zlf]
      refine ⟨(hx.trans (zB4 hx.ok)).mono (by omega),hL.trans (zy4 hx.ok _),?_⟩
      show P0 T0 b idx (B'.flush k).2=_
      rw [←h0]
      unfold Ben.flush
      split<;>rfl
  · rintro again k B' hk' ⟨hx,hL,h0⟩
    dsimp only [st]
    have hA:=h.nx hx
    have hxw:=hx.w
    have hw':B'.w≤1000000:=by omega
    have hup:=zEj hA .lent live (d:=(k:Int)) (by omega)
    rw [hL.up,h0] at hup
    by_cases hu:B.up live (k:Int)=true
    rotate_left
    · have hu':B.up live (k:Int)=false:=by simpa using hu
      rw [hu'] at hup
      rw [show acts k=[] from if_neg hu]
      simp (disch:=first | omega | assumption | (simp; done) | fail) [hk',hup,zam,runA]
    · rw [hu] at hup
      rw [show acts k=[.f k] from if_pos hu,zlf]
      have hfl:=zAW hA hw' (k:Int)
      rw [h0] at hfl
      by_cases he:(B'.flush k).1=0
      · simp (disch:=first | omega | assumption | (simp; done) | fail) [hk',hup,zam,hfl,he,Ben.act]
      · simp (disch:=first | omega | assumption | (simp; done) | fail) [hk',hup,zam,hfl,he,Ben.act]
  · rintro again B' ⟨hx,hL,h0⟩
    dsimp only [st]
    simp
end
end Wf

namespace Wf
open Go Go.RowKit Go.Proofs
set_option linter.unusedSimpArgs false
set_option linter.unusedVariables false
set_option maxHeartbeats 4000000
theorem zA7 {p q:List Int} {ls o:List (List Int)} (h:zj9 p q ls=some o):o.length=ls.length:=by
  unfold zj9 at h
  split at h
  · cases h
  split at h
  · cases h
  split at h
  · cases h; simp [zcO]
  · split at h
    · cases h; simp [zcO]
    · cases h; simp [zcO]
  · cases h; simp [zcO]
theorem zCD {g:Geo} {r:Int} {ls o:List (List Int)} (h:zrz g r ls=some o):o.length=g.width.toNat:=by
  unfold zrz at h
  split at h
  · rw [zA7 h]; simp [zfY]
  · cases h
section
variable {T0 T1:Tb} {b:Nat} {idx:List Nat} {B:Ben}
theorem zEp {live:List Bool} {d a:Int} (hdn:B.down=false) (d0:0≤d) (hu:B.up live d=true) (a0:0≤a) (a1:a < 52):B.read d a=(B.cur d a,0):=by
  obtain ⟨h1,h2,_⟩:=zCc d0 hu
  rw [zfL h1] at h2
  unfold Ben.read
  rw [if_neg (by rw [may0.2 ⟨h1,hdn⟩]; simp)]
  unfold DS.read
  rw [if_neg (by rw [zoa.2 ⟨h2,a0,a1⟩]; simp)]
  rfl
theorem zA8 {live:List Bool} {d:Int} (a:Int) (hdn:B.down=true) (d0:0≤d) (hu:B.up live d=true):B.read d a=([],6):=by
  obtain ⟨h1,h2,_⟩:=zCc d0 hu
  have hm:B.may d=6:=by unfold Ben.may; rw [h1,hdn]; rfl
  unfold Ben.read
  rw [hm]; simp
def Ben.secP (B:Ben) (live:List Bool) (r:Int) (n k:Nat):List Part:=(List.range n).map fun (d:Nat)=>if d < k then (if B.up live d then (Tag.fresh,B.cur d (36+r)) else (Tag.nil,[])) else (Tag.nil,[])
theorem zCE (live:List Bool) (r:Int) (n:Nat):(B.secP live r n n).map (·.2)=B.secs live r n:=by
  unfold Ben.secP Ben.secs
  rw [List.map_map]
  apply List.map_congr_left
  intro d hd
  have:=List.mem_range.1 hd
  simp only [Function.comp_apply,if_pos this]
  split<;>rfl
@[simp] theorem zul (live:List Bool) (r:Int) (n k:Nat):(B.secP live r n k).length=n:=by simp [Ben.secP]
theorem zA9 (live:List Bool) (r:Int) {n k:Nat} (hk:k < n) (hu:B.up live k=true):(B.secP live r n k).set k (Tag.fresh,B.cur k (36+r))=B.secP live r n (k+1):=by
  apply List.ext_getElem?
  intro j
  rw [List.getElem?_set]
  unfold Ben.secP
  by_cases hj:j < n
  · by_cases hjk:k=j
    · subst hjk; simp [hj,hu]
    · rw [if_neg hjk]
      simp only [List.getElem?_map,List.getElem?_range hj,Option.map_some]
      by_cases h1:j < k
      · simp only [if_pos h1,if_pos (show j < k+1 by omega)]
      · simp only [if_neg h1,if_neg (show ¬ j < k+1 by omega)]
  · have h1:k≠j:=by omega
    rw [if_neg h1,List.getElem?_eq_none (by simp; omega),List.getElem?_eq_none (by simp; omega)]
theorem zBa (live:List Bool) (r:Int) {n k:Nat} (hk:k < n) (hu:B.up live k=false):B.secP live r n k=B.secP live r n (k+1):=by
  unfold Ben.secP
  apply List.map_congr_left
  intro j hj
  by_cases h1:j < k
  · simp only [if_pos h1,if_pos (show j < k+1 by omega)]
  · by_cases hjk:j=k
    · subst hjk; simp [hu]
    · simp only [if_neg h1,if_neg (show ¬ j < k+1 by omega)]
theorem zBb (live:List Bool) (r:Int) (n:Nat):pL (B.secP live r n 0)=List.replicate n (D.sl .nil []):=by
  unfold Ben.secP pL
  rw [List.map_map]
  apply List.ext_getElem?
  intro j
  by_cases hj:j < n
  · simp [hj,uL]
  · rw [List.getElem?_eq_none (by simp; omega),List.getElem?_eq_none (by simp; omega)]
theorem zEq (live:List Bool) (r:Int) {n k:Nat} (hk:k < n):(B.secP live r n k)[k]? =some (Tag.nil,[]):=by unfold Ben.secP; simp [hk]
theorem zrq (h:At T0 T1 b idx B) (hw:B.w≤1000000) (tg:Tag) (live:List Bool) (g:Geo) (r:Int):
    zbZ [.h kB b 0,.sl tg (live.map D.bool),.agg [.int .i64 g.l,.int .i64 g.d,.int .i64 g.c],.int .i64 r] [P0 T0 b idx B,P1 T1 idx B]=
      some (Ans.mk (.tup [.sl .own (pL (fP (B.sRead live g r).1)),.int .i64 (B.sRead live g r).2]) [] []):=by
  rw [zpv,ziw]
  unfold ziV Ben.sRead
  have hck:zaj [.agg [.int .i64 g.l,.int .i64 g.d,.int .i64 g.c]]=some (.int .i64 (if g.ok then 0 else 1)):=zfD g.l g.d g.c
  cases hk:g.ok
  · have hf:zcH g r=false:=by unfold zcH; rw [hk]; rfl
    rw [hk] at hck
    simp [hck,hf]; rfl
  rw [hk] at hck
  by_cases r0:r < 0
  · have hf:zcH g r=false:=by unfold zcH; rw [hk]; simp; omega
    simp [hck,hf,r0]; rfl
  by_cases r1:r≥16
  · have hf:zcH g r=false:=by unfold zcH; rw [hk]; simp; omega
    simp [hck,hf,r0,show 16≤r by omega]; rfl
  have hr:zcH g r=true:=zbO.2 ⟨hk,by omega,by omega⟩
  have hdd:=ok_d hk
  rw [if_neg (by simp [hr])]
  have r1':¬ 16≤r:=by omega
  simp (disch:=first | omega | assumption | (simp; done) | fail) only [hck,if_true,zac,zbe,zxJ,zry,zaa,List.length_replicate,Nat.zero_add,Nat.le_refl]
  let st:Nat→(Nat×List D×Int×(Int×Int×Int×PUnit)×List D×Int×Int×PUnit)×List (List D)×List (List D)×PUnit:=fun k=>
    ((b,live.map D.bool,r,(g.l,g.d,g.c,PUnit.unit),pL (B.secP live r g.d.toNat k),((g.d.toNat:Nat):Int),(k:Int),PUnit.unit),P0 T0 b idx B,P1 T1 idx B,PUnit.unit)
  have hst:st 0=((b,live.map D.bool,r,(g.l,g.d,g.c,PUnit.unit),List.replicate g.d.toNat (D.sl .nil []),((g.d.toNat:Nat):Int),0,PUnit.unit),P0 T0 b idx B,P1 T1 idx B,PUnit.unit):=by
    simp only [st,zBb]; rfl
  rw [←hst]
  refine zk4 (fun x=>g.d.toNat - x.1.2.2.2.2.2.2.1.toNat) (fun _=>_) (fun x=>∃ k:Nat,k≤g.d.toNat∧(B.down=true→∀ j:Nat,j < k→B.up live j=false)∧x=st k) ?_ ⟨0,by omega,fun _ j hj=>by omega,rfl⟩ (by simp [st]; omega)
  rintro again _ ⟨k,hk',hdn,rfl⟩ hag
  dsimp only [st]
  by_cases hlt:k < g.d.toNat
  · have hup:=zEj h .lent live (d:=(k:Int)) (by omega)
    by_cases hu:B.up live (k:Int)=true
    · rw [hu] at hup
      cases hdo:B.down
      · have hrd:=zxZ h hw (k:Int) (36+r)
        rw [zEp hdo (by omega) hu (by omega) (by omega)] at hrd
        have hg:=zEq (B:=B) live r hlt
        have:=hag (st (k+1)) ⟨k+1,by omega,fun e=>(by rw [hdo] at e; cases e),rfl⟩ (by simp [st]; omega)
        dsimp only [st] at this
        rw [←zA9 live r hlt hu] at this
        simp (disch:=first | omega | assumption | (simp; done) | fail) [hlt,hup,hrd,zam,zul,zai (zcJ hg),zja,zpb]
        rw [show ((k+1:Nat):Int)=(k:Int)+1 by omega] at this
        simpa [hdo] using this
      · have hrd:=zxZ h hw (k:Int) (36+r)
        rw [zA8 (36+r) hdo (by omega) hu] at hrd
        have hany:(List.range g.d.toNat).any (fun (d:Nat)=>B.up live d)=true:=by
          rw [List.any_eq_true]; exact ⟨k,List.mem_range.2 hlt,hu⟩
        rw [hany]
        simp (disch:=first | omega | assumption | (simp; done) | fail) [hlt,hup,hrd,zam]
        rfl
    · have hu':B.up live (k:Int)=false:=by simpa using hu
      rw [hu'] at hup
      have:=hag (st (k+1)) ⟨k+1,by omega,fun e j hj=>by
        by_cases ej:j=k
        · subst ej; exact hu'
        · exact hdn e j (by omega),rfl⟩ (by simp [st]; omega)
      dsimp only [st] at this
      rw [←zBa live r hlt hu'] at this
      rw [show ((k+1:Nat):Int)=(k:Int)+1 by omega] at this
      simp (disch:=first | omega | assumption | (simp; done) | fail) [hlt,hup,zam]
      simpa using this
  · have hke:k=g.d.toNat:=by omega
    have hno:¬ (B.down=true∧(List.range g.d.toNat).any (fun (d:Nat)=>B.up live d)=true):=by
      rintro ⟨e1,e2⟩
      rw [List.any_eq_true] at e2
      obtain ⟨j,hj,hu⟩:=e2
      rw [hdn e1 j (by rw [hke]; exact List.mem_range.1 hj)] at hu; cases hu
    rw [if_neg hno]
    have htk:=zCB g r .lent (ps:=B.secP live r g.d.toNat g.d.toNat) (by rw [zul]; omega)
    rw [zCE] at htk
    subst hke
    simp (disch:=first | omega | assumption | (simp; done) | fail) [-List.all_eq_true,zoH,zul,htk]
    cases zrz g r (B.secs live r g.d.toNat) with
    | none=>simp [-List.all_eq_true,solD]; rfl
    | some o=>simp [-List.all_eq_true,solD,zf3]
end
end Wf

namespace Wf
open Go Go.RowKit Go.Proofs
set_option linter.unusedSimpArgs false
set_option linter.unusedVariables false
set_option maxHeartbeats 4000000
def zoM (w left:Int) (down:Bool) (hs:List D):List D:=[.int .i64 w,.int .i64 left,.bool down,.sl .own hs]
theorem zrr (m k:Nat):((List.range k).map fun j=>hD (m+j))++[hD (m+k)]=(List.range (k+1)).map fun j=>hD (m+j):=by simp [List.range_succ]
theorem zsW (l:List Nat):zc7 (l.map hD)=true:=by simp only [zc7,List.all_map,List.all_eq_true]; intro i _; rfl
theorem zvZ (l:List Nat):zfe 1 (l.map hD)=true:=by simp only [zfe,List.all_map,List.all_eq_true]; intro i _; rfl
theorem zrW {α:Type} (k:Nat) (a:α):List.replicate k a++[a]=List.replicate (k+1) a:=by
  rw [List.replicate_succ']
theorem zCF (T0 T1:Tb) {n:Int} (h0:1≤n) (h1:n≤8):
    zbq [.int .i64 n] [T0,T1]=some (Ans.mk (.tup [.h kB T0.length 0,.int .i64 0]) []
      [T0++[zoM 0 (-1) false ((List.range n.toNat).map fun j=>hD (T1.length+j))],T1++List.replicate n.toNat DS.new.cells]):=by
  rw [zrB]
  unfold zml
  have d1:decide (n < 1)=false:=by simp; omega
  have d2:decide (n > 8)=false:=by simp; omega
  rw [d1,zas,d2,zas,zl9]
  have hn:n=(n.toNat:Int):=by omega
  let st:Nat→(Nat×Int×Int×PUnit)×List (List D)×List (List D)×PUnit:=fun k=>
    ((T0.length,n,(k:Int),PUnit.unit),T0++[zoM 0 (-1) false ((List.range k).map fun j=>hD (T1.length+j))],T1++List.replicate k DS.new.cells,PUnit.unit)
  have h00:st 0=((T0.length,n,0,PUnit.unit),T0++[[D.own0 (D.int IntKind.i64 (0:Int)),D.own0 (D.int IntKind.i64 (-1:Int)),D.own0 (D.bool false),D.own0 (D.sl Tag.nil [])]],T1,PUnit.unit):=by
    simp [st,zoM,D.own0]
  rw [←h00]
  refine zb6 st n.toNat (by omega) ?_ ?_
  · intro again k hk
    dsimp only [st]
    have hd:decide ((k:Int) < n)=true:=by simp; omega
    have hrow:(T0++[zoM 0 (-1) false ((List.range k).map fun j=>hD (T1.length+j))])[T0.length]? =some (zoM 0 (-1) false ((List.range k).map fun j=>hD (T1.length+j))):=by simp
    have hnew:=zFC (T1++List.replicate k DS.new.cells)
    have hl:(T1++List.replicate k DS.new.cells).length=T1.length+k:=by simp
    rw [hl,List.append_assoc,zrW] at hnew
    rw [hd,za1,zai hrow]
    unfold zoM at hrow ⊢
    rw [zdR,zdR,zdR,zeV,zbF,hnew,zac,zbE,zb5,zbE,zaa (by rfl),zaa (by rfl),zai hrow,zdR,zdR,zdR,zeV,zbF]
    rw [zaa (by simp; omega),zaa (by rfl),zaa (by rfl),zl9,ztC hrow]
    have hset:=zk3 hrow (List.set [D.int .i64 0,.int .i64 (-1),.bool false,.sl .own ((List.range k).map fun j=>hD (T1.length+j))] 3 .undef)
    have hsn:=zrr T1.length k
    unfold hD at hsn
    have hH:(List.map (fun j=>hD (T1.length+j)) (List.range k))++[D.h kD (T1.length+k) 0]=(List.range (k+1)).map fun j=>hD (T1.length+j):=hsn
    dsimp only
    rw [zai hset,zaa (by simp),hH,zaa (by simp)]
    have e1:((List.range (k+1)).map fun j=>hD (T1.length+j))=((List.range (k+1)).map fun j=>T1.length+j).map hD:=by rw [List.map_map]; rfl
    rw [e1,zaa (zsW _),zaa (zvZ _),zl9,zaJ,zam (by omega) (by omega),zdT hset,←e1,List.set_set]
    simp [zoM]
  · intro again
    dsimp only [st]
    have hd:decide (((n.toNat:Nat):Int) < n)=false:=by simp; omega
    rw [hd,zas]
def nIdx (T1:Tb) (n:Nat):List Nat:=(List.range n).map fun j=>T1.length+j
def nT0 (T0 T1:Tb) (n:Nat):Tb:=T0++[bRow (Ben.new n) (nIdx T1 n)]
def nT1 (T1:Tb) (n:Nat):Tb:=T1++List.replicate n DS.new.cells
theorem zEr (T1:Tb) (n:Nat):((List.range n).map fun j=>hD (T1.length+j))=(nIdx T1 n).map hD:=by unfold nIdx; rw [List.map_map]; rfl
theorem zBc (T0 T1:Tb) {n:Nat} (h8:n≤8):At (nT0 T0 T1 n) (nT1 T1 n) T0.length (nIdx T1 n) (Ben.new n):=by
  refine ⟨by simp [nT0],?_,fun i hi=>?_,by simp [nIdx,Ben.new],zsC h8⟩
  · unfold List.Nodup nIdx
    rw [List.pairwise_map]
    exact List.Pairwise.imp (fun h e=>h (by omega)) (List.nodup_range (n:=n))
  · unfold nIdx at hi
    obtain ⟨j,hj,rfl⟩:=List.mem_map.1 hi
    have:=List.mem_range.1 hj
    simp [nT1]; omega
theorem zFL (T0 T1:Tb) (n:Nat):P0 (nT0 T0 T1 n) T0.length (nIdx T1 n) (Ben.new n)=nT0 T0 T1 n:=zwH (by unfold nT0; simp)
theorem zFM (T1:Tb) (n:Nat):P1 (nT1 T1 n) (nIdx T1 n) (Ben.new n)=nT1 T1 n:=by
  unfold P1
  show putL _ _ _++[]=_
  rw [List.append_nil]
  refine zka fun j i c h1 h2=>?_
  have hj:j < n:=by have:=zaV h1; simpa [nIdx] using this
  have e1:i=T1.length+j:=by
    unfold nIdx at h1
    rw [List.getElem?_map,List.getElem?_range hj] at h1
    simpa using h1.symm
  have e2:c=DS.new.cells:=by
    have:(Ben.new n).ds.map DS.cells=List.replicate n DS.new.cells:=by unfold Ben.new; simp
    rw [this] at h2
    rw [List.getElem?_replicate,if_pos hj] at h2
    exact (Option.some.inj h2).symm
  subst e1 e2
  unfold nT1
  rw [List.getElem?_append_right (by omega),show T1.length+j - T1.length=j by omega,List.getElem?_replicate,if_pos hj]
theorem zFN (T0 T1:Tb) {n:Nat} (h0:1≤n) (h8:n≤8):
    zbq [.int .i64 n] [T0,T1]=some (Ans.mk (.tup [.h kB T0.length 0,.int .i64 0]) [] [P0 (nT0 T0 T1 n) T0.length (nIdx T1 n) (Ben.new n),P1 (nT1 T1 n) (nIdx T1 n) (Ben.new n)]):=by
  rw [zCF T0 T1 (by omega) (by omega),zFL,zFM,Int.toNat_natCast,zEr]
  rfl
structure Still (B:Ben):Prop where
  ok:B.Ok
  down:B.down=false
  ds:∀ s∈B.ds,s.failed=false∧s.pend=[]
theorem Still.dk {B:Ben} (h:Still B) (d:Int):(B.dk d).failed=false∧(B.dk d).pend=[]:=by
  unfold Ben.dk
  cases e:B.ds[d.toNat]? with
  | none=>exact ⟨rfl,rfl⟩
  | some s=>exact h.ds s (List.mem_of_getElem? e)
theorem Still.failed {B:Ben} (h:Still B) (d:Int):B.failed d=false:=by unfold Ben.failed; rw [(h.dk d).1,Bool.and_false]
theorem zv0 {n:Nat} (h:n≤8):Still (Ben.new n):=⟨zsC h,rfl,fun s hs=>by
  unfold Ben.new at hs
  rw [(List.mem_replicate.1 hs).2]; exact ⟨rfl,rfl⟩⟩
theorem zDe (n:Nat) (d:Int):(Ben.new n).dk d=DS.new:=by
  unfold Ben.dk Ben.new
  dsimp only
  rw [List.getElem?_replicate]
  split<;>rfl
theorem zCG {a:Nat} (ha:a < 52):DS.new.base a=zfX:=by
  unfold DS.base
  show ((List.replicate 1664 (0:Int)).drop (a*32)).take 32=_
  rw [List.drop_replicate,List.take_replicate]
  unfold zfX
  congr 1
  omega
theorem zw3 (n:Nat) (d:Int) {a:Int} (a0:0≤a) (a1:a < 52):(Ben.new n).cur d a=zfX:=by
  unfold Ben.cur
  rw [zDe]
  show look [] a (DS.new.base a.toNat)=_
  rw [zpJ,zCG (by omega)]
section
variable {B:Ben} {d a:Int} {x:List Int}
theorem zv1 (h:Still B) (hx:Sec x):Still (B.damage d a x).2∧(B.damage d a x).2.n=B.n∧(B.damage d a x).2.w=B.w∧(B.damage d a x).2.left=B.left:=by
  refine ⟨⟨(zvr h.ok (.inl hx)).ok,?_,?_⟩,(zvr (d:=d) (a:=a) h.ok (.inl hx)).n,?_,?_⟩
  · unfold Ben.damage; split<;>exact h.down
  · unfold Ben.damage
    split
    · intro s hs
      rcases List.mem_or_eq_of_mem_set hs with hs | hs
      · exact h.ds s hs
      · subst hs
        unfold DS.damage
        dsimp only
        split
        · exact h.dk d
        · exact h.dk d
    · exact h.ds
  · unfold Ben.damage; split<;>rfl
  · unfold Ben.damage; split<;>rfl
theorem zy5 (h:Still B) (hd:B.is d=true) (a0:0≤a) (a1:a < 52) (hx:Sec x) {e b:Int} (e0:0≤e) (b0:0≤b) (b1:b < 52):
    (B.damage d a x).1=0∧(B.damage d a x).2.cur e b=if e=d∧b=a then x else B.cur e b:=by
  have hk:=h.dk d
  have hw:(B.dk d).mayW a x=0:=zAy (zoa.2 ⟨hk.1,a0,a1⟩) hx.len
  have e1:(B.dk d).damage a x=(0,(B.dk d).setSec a.toNat x):=by unfold DS.damage; rw [hw,if_pos rfl]
  unfold Ben.damage
  rw [if_pos hd,e1]
  refine ⟨rfl,?_⟩
  unfold Ben.cur
  rw [zfp hd e0]
  by_cases he:e=d
  · subst he
    rw [if_pos rfl]
    have hp:((B.dk e).setSec a.toNat x).pend=[]:=hk.2
    unfold DS.sec
    rw [hp,hk.2,zpJ,zpJ,zqL (zmc h.ok e).1.len (by omega) hx.len b.toNat (by omega)]
    by_cases hb:b=a
    · rw [if_pos (by omega),if_pos ⟨rfl,hb⟩]
    · rw [if_neg (by omega),if_neg (fun q=>hb q.2)]
  · rw [if_neg he,if_neg (fun q=>he q.1)]
end
def Ben.dmgs (B:Ben) (a:Int) (xs:List (List Int)):Nat→Ben
  | 0=>B
  | k+1=>((B.dmgs a xs k).damage (k:Int) a (xs.getD k [])).2
def rowL (g:Geo) (l:List Int) (r:Nat):List (List Int):=secL (l.drop (min r l.length)) g.width.toNat
theorem zpO {g:Geo} (hk:g.ok=true) (l:List Int) (r:Nat):Row g (rowL g l r):=⟨by have:=zdb hk; simp [rowL]; omega,zx4 _ _⟩
def zix (gs:Nat→Geo) (l:List Int) (n:Nat):Nat→Ben
  | 0=>.new n
  | r+1=>(zix gs l n r).dmgs (36+(r:Int)) (zcP (gs r) r (rowL (gs r) l r)) (min (gs r).d.toNat n)
structure Filld (gs:Nat→Geo) (l:List Int) (n:Nat) (R:Nat) (B:Ben):Prop where
  still:Still B
  num:B.n=n
  w:B.w=0
  left:B.left= -1
  cur:∀ d a:Int,0≤d→0≤a→a < 52→B.cur d a=if 36≤a∧a < 36+R∧d < (gs (a - 36).toNat).d∧d < n then atR (gs (a - 36).toNat) (a - 36) (rowL (gs (a - 36).toNat) l (a - 36).toNat) d else zfX
theorem zrs {g:Geo} {r:Int} {data:List (List Int)} {d:Nat} (h:(d:Int) < g.d):(zcP g r data).getD d []=atR g r data d:=by
  rw [List.getD_eq_getElem?_getD,zh9 h]; rfl
theorem zoN {gs:Nat→Geo} {l:List Int} {n R:Nat} {B:Ben} (h:Filld gs l n R B) (hR:R < 16) (hk:(gs R).ok=true):∀ k,k≤min (gs R).d.toNat n→
    Still (B.dmgs (36+(R:Int)) (zcP (gs R) R (rowL (gs R) l R)) k)∧(B.dmgs (36+(R:Int)) (zcP (gs R) R (rowL (gs R) l R)) k).n=n∧(B.dmgs (36+(R:Int)) (zcP (gs R) R (rowL (gs R) l R)) k).w=0∧(B.dmgs (36+(R:Int)) (zcP (gs R) R (rowL (gs R) l R)) k).left= -1∧
    ∀ d a:Int,0≤d→0≤a→a < 52→(B.dmgs (36+(R:Int)) (zcP (gs R) R (rowL (gs R) l R)) k).cur d a=if a=36+R∧d < k then atR (gs R) R (rowL (gs R) l R) d else B.cur d a
  | 0,_=>⟨h.still,h.num,h.w,h.left,fun d a d0 a0 a1=>by rw [if_neg (by omega)]; rfl⟩
  | k+1,hk'=>by
    obtain ⟨i1,i2,i3,i4,i5⟩:=zoN h hR hk k (by omega)
    have hr:zcH (gs R) (R:Int)=true:=zbO.2 ⟨hk,by omega,by omega⟩
    have hsec:=zvw hr (zpO hk l R) (d:=(k:Int)) (by omega) (by omega)
    have hg:=zrs (g:=gs R) (r:=R) (data:=rowL (gs R) l R) (d:=k) (by omega)
    generalize hB:B.dmgs (36+(R:Int)) (zcP (gs R) R (rowL (gs R) l R)) k=C at*
    have hC:B.dmgs (36+(R:Int)) (zcP (gs R) R (rowL (gs R) l R)) (k+1)=(C.damage (k:Int) (36+(R:Int)) (atR (gs R) R (rowL (gs R) l R) k)).2:=by
      show ((B.dmgs (36+(R:Int)) (zcP (gs R) R (rowL (gs R) l R)) k).damage (k:Int) (36+(R:Int)) ((zcP (gs R) R (rowL (gs R) l R)).getD k [])).2=_
      rw [hB,hg]
    rw [hC]
    have hd:C.is (k:Int)=true:=zdw.2 ⟨by omega,by rw [i2]; omega⟩
    obtain ⟨j1,j2,j3,j4⟩:=zv1 (d:=(k:Int)) (a:=36+(R:Int)) i1 hsec
    refine ⟨j1,j2.trans i2,j3.trans i3,j4.trans i4,fun d a d0 a0 a1=>?_⟩
    rw [(zy5 i1 hd (by omega) (by omega) hsec d0 a0 a1).2,i5 d a d0 a0 a1]
    by_cases ha:a=36+(R:Int)
    · by_cases hdk:d=k
      · subst hdk; rw [if_pos ⟨rfl,ha⟩,if_pos ⟨ha,by omega⟩]
      · rw [if_neg (fun q=>hdk q.1)]
        by_cases hlt:d < k
        · rw [if_pos ⟨ha,hlt⟩,if_pos ⟨ha,by omega⟩]
        · rw [if_neg (fun q=>hlt q.2),if_neg (fun q=>by omega)]
    · rw [if_neg (fun q=>ha q.2),if_neg (fun q=>ha q.1),if_neg (fun q=>ha q.1)]
theorem zkR {gs:Nat→Geo} {l:List Int} {n:Nat} (n8:n≤8) (hk:∀ r,(gs r).ok=true):∀ R,R≤16→Filld gs l n R (zix gs l n R)
  | 0,_=>⟨zv0 n8,by simp [zix,Ben.new,Ben.n],rfl,rfl,fun d a d0 a0 a1=>by rw [if_neg (by omega)]; exact zw3 n d a0 a1⟩
  | R+1,hR=>by
    have ih:=zkR (l:=l) n8 hk R (by omega)
    obtain ⟨i1,i2,i3,i4,i5⟩:=zoN ih (by omega) (hk R) (min (gs R).d.toNat n) (Nat.le_refl _)
    refine ⟨i1,i2,i3,i4,fun d a d0 a0 a1=>?_⟩
    show ((zix gs l n R).dmgs (36+(R:Int)) (zcP (gs R) R (rowL (gs R) l R)) (min (gs R).d.toNat n)).cur d a=_
    rw [i5 d a d0 a0 a1,ih.cur d a d0 a0 a1]
    have hdd:=ok_d (hk R)
    by_cases ha:a=36+(R:Int)
    · have e:(a - 36).toNat=R:=by omega
      have e2:a - 36=(R:Int):=by omega
      rw [e,e2]
      by_cases hlt:d < (gs R).d∧d < n
      · rw [if_pos ⟨ha,by omega⟩,if_pos ⟨by omega,by omega,hlt.1,hlt.2⟩]
      · rw [if_neg (fun q=>hlt ⟨by omega,by omega⟩),if_neg (fun q=>by omega),if_neg (fun q=>hlt ⟨q.2.2.1,q.2.2.2⟩)]
    · rw [if_neg (fun q=>ha q.1)]
      by_cases hc:36≤a∧a < 36+(R:Int)∧d < (gs (a - 36).toNat).d∧d < n
      · rw [if_pos hc,if_pos ⟨hc.1,by omega,hc.2.2.1,hc.2.2.2⟩]
      · rw [if_neg hc,if_neg (fun q=>hc ⟨q.1,by omega,q.2.2.1,q.2.2.2⟩)]
end Wf

namespace Wf
open Go Go.RowKit Go.Proofs
set_option linter.unusedSimpArgs false
set_option linter.unusedVariables false
set_option maxHeartbeats 4000000
theorem zBd (l:List Int) (n:Nat):(intL l).drop n=intL (l.drop n):=by simp [intL,List.map_drop]
theorem zy6 (l:List Int):zyB 1 (intL l)=true:=by simp [zyB,intL,D.cell,D.width]
theorem zBe (l:List Int) (r:Int) (r0:0≤r):cutI (min r (l.length:Int)) (l.length:Int) (intL l)=intL (l.drop (min r.toNat l.length)):=by
  unfold cutI
  have:(min r (l.length:Int)).toNat=min r.toNat l.length:=by omega
  rw [this,zBd,List.take_of_length_le (by rw [zgp]; simp; omega)]
section
variable {T0 T1:Tb}
end
end Wf

namespace Wf
open Go Go.RowKit Go.Proofs
set_option linter.unusedSimpArgs false
set_option linter.unusedVariables false
set_option maxHeartbeats 4000000
theorem zv2 {p:Nat→Bool} {a b:Nat}:∀ n,(∀ i,i < n→p i=true→i=a∨i=b)→(List.range n).countP p≤(if a < n then 1 else 0)+(if b < n then 1 else 0)
  | 0,_=>by simp
  | n+1,h=>by
    have ih:=zv2 n fun i hi hp=>h i (by omega) hp
    rw [List.range_succ,List.countP_append,List.countP_singleton]
    by_cases hp:p n=true
    · rw [if_pos hp]
      rcases h n (by omega) hp with e | e
      · subst e; rw [if_neg (by omega)] at ih; rw [if_pos (by omega)]; split at ih<;>split<;>omega
      · subst e; rw [if_neg (show ¬ n < n by omega)] at ih; rw [if_pos (show n < n+1 by omega)]; split at ih<;>split<;>omega
    · rw [if_neg hp]
      split at ih<;>split at ih<;>split<;>split<;>omega
theorem zBf {p:Nat→Bool} {a n:Nat} (h:∀ i,i < n→p i=true→i=a):(List.range n).countP p≤1:=by
  have:∀ n,(∀ i,i < n→p i=true→i=a)→(List.range n).countP p≤if a < n then 1 else 0:=by
    intro n
    induction n with
    | zero=>simp
    | succ n ih=>
      intro h
      have ih:=ih fun i hi hp=>h i (by omega) hp
      rw [List.range_succ,List.countP_append,List.countP_singleton]
      by_cases hp:p n=true
      · rw [if_pos hp]
        have e:=h n (by omega) hp
        subst e; rw [if_neg (by omega)] at ih; rw [if_pos (by omega)]; omega
      · rw [if_neg hp]
        split at ih<;>split<;>omega
  have:=this n h
  split at this<;>omega
section
variable {B:Ben} {d a:Int}
theorem zCH (hd:B.is d=true) {e b:Int} (e0:0≤e) (hne:e≠d):(B.fail d).2.cur e b=B.cur e b:=by
  unfold Ben.fail
  rw [if_pos hd]
  unfold Ben.cur
  rw [zfp hd e0,if_neg hne]
theorem zw4 (hd:B.is d=true) {e:Int} (he:B.is e=true):(B.fail d).2.failed e=(decide (e=d) || B.failed e):=by
  unfold Ben.fail
  rw [if_pos hd]
  unfold Ben.failed
  rw [zwG,he,zfp hd (zdw.1 he).1]
  by_cases h:e=d
  · subst h; rw [if_pos rfl,show DS.dead.failed=true from rfl]; simp
  · rw [if_neg h]; simp [h]
theorem zBg (hd:B.is d=true):(B.fail d).1=0∧(B.fail d).2.n=B.n∧(B.fail d).2.down=B.down∧(B.fail d).2.left=B.left∧(B.fail d).2.w=B.w:=by
  unfold Ben.fail
  rw [if_pos hd]
  exact ⟨rfl,by simp,rfl,rfl,rfl⟩
end
theorem zCI {n:Nat} {d:Int} (d0:0≤d):((List.replicate n true)[d.toNat]?).getD false=decide (d < n):=by
  rw [List.getElem?_replicate]
  by_cases h:d < n
  · rw [if_pos (by omega)]; simp [h]
  · rw [if_neg (by omega)]; simp [h]
theorem zFO {B:Ben} {n:Nat} (hn:B.n=n) {d:Int} (d0:0≤d):B.up (List.replicate n true) d=(decide (d < n) && !B.failed d):=by
  unfold Ben.up
  rw [zCI d0,hn]
  cases decide (d < (n:Int))<;>simp
theorem zx9 (B:Ben) (live:List Bool) (g:Geo) (r:Int) (data:List (List Int)):nW (B.wActs live g r data)≤g.d.toNat:=by
  unfold Ben.wActs
  have:∀ n,nW ((List.range n).flatMap fun (d:Nat)=>if B.up live d then [Act.w d (36+r) (atR g r data d)] else [])≤n:=by
    intro n
    induction n with
    | zero=>simp [nW]
    | succ n ih=>
      rw [List.range_succ,List.flatMap_append,zqR]
      have:nW (List.flatMap (fun (d:Nat)=>if B.up live d then [Act.w d (36+r) (atR g r data d)] else []) [n])≤1:=by
        simp only [List.flatMap_cons,List.flatMap_nil,List.append_nil]
        split
        · exact Nat.le_trans (List.length_filter_le _ _) (by simp)
        · simp [nW]
      omega
  exact this _
theorem zum (B:Ben) (live:List Bool):nW (B.fActs live)=0:=by
  unfold Ben.fActs nW
  rw [List.length_eq_zero_iff,List.filter_eq_nil_iff]
  intro a ha
  obtain ⟨d,_,ha⟩:=List.mem_flatMap.1 ha
  split at ha
  · rw [List.mem_singleton.1 ha]; simp [Act.isW]
  · cases ha
theorem zw5 {B:Ben} (hB:B.Ok) (hd:B.down=false) {live:List Bool} {g:Geo} {r:Int} {data:List (List Int)} (hr:zcH g r=true) (hR:Row g data) (hl:B.left < 0∨8≤B.left):
    B.sWrite live g r data=(0,does B (B.wActs live g r data))∧Does B (B.wActs live g r data):=by
  have hdd:=ok_d (zbO.1 hr).1
  have hn:=zx9 B live g r data
  have:=zpL (B.wActs live g r data) hB hd (zCd hr hR) (by omega)
  refine ⟨?_,this⟩
  unfold Ben.sWrite
  rw [zqU hr hR,if_neg (by simp),this.run]
theorem zw6 {B:Ben} (hB:B.Ok) (hd:B.down=false) (live:List Bool) (hl:B.left < 0∨0≤B.left):B.sFlush live=(0,does B (B.fActs live))∧Does B (B.fActs live):=by
  have:=zpL (B.fActs live) hB hd zCe (by rw [zum]; omega)
  exact ⟨this.run,this⟩
theorem zBh {B:Ben} {live:List Bool} (h:Does B (B.fActs live)) {e b:Int} (e0:0≤e) (b0:0≤b) (b1:b < 52):(does B (B.fActs live)).cur e b=B.cur e b:=by
  rw [h.cur e b e0 b0 b1]
  exact zob (zCf e b) _
theorem zBi {B:Ben} {live:List Bool} {g:Geo} {r:Int} {data:List (List Int)} (h:Does B (B.wActs live g r data)) {e b:Int} (e0:0≤e) (e1:e < g.d) (b0:0≤b) (b1:b < 52):
    (does B (B.wActs live g r data)).cur e b=if b=36+r∧B.up live e=true then atR g r data e else B.cur e b:=by
  rw [h.cur e b e0 b0 b1]
  by_cases hc:b=36+r∧B.up live e=true
  · rw [if_pos hc,hc.1]
    have:=zAK (B:=B) (live:=live) (g:=g) (r:=r) (data:=data) (d:=e.toNat) (by omega) (by rw [show ((e.toNat:Nat):Int)=e by omega]; exact hc.2) B.cur
    rw [show ((e.toNat:Nat):Int)=e by omega] at this
    exact this
  · rw [if_neg hc]
    refine zob (zwK ?_) _
    by_cases hb:b=36+r
    · refine .inr ?_
      cases hu:B.up live e
      · rfl
      · exact absurd ⟨hb,hu⟩ hc
    · exact .inl hb
theorem zya (f:Nat→Int) {n:Nat}:sumK f 32 (List.replicate n zfX) n=zfX:=by
  have hs:∀ l∈List.replicate n zfX,l.length=32:=by intro l hl; rw [(List.mem_replicate.1 hl).2]; exact zj6.len
  have hl:(sumK f 32 (List.replicate n zfX) n).length=32:=zk6 hs (by simp)
  refine zAq (by rw [hl,zj6.len]) fun i hi=>?_
  rw [hl] at hi
  rw [zsz hs hi (by simp),zj7]
  have:∀ k,k≤n→xsum (fun j=>mul8 (getB ((List.replicate n zfX).getD j []) i) (f j)) k=0:=by
    intro k
    induction k with
    | zero=>intro _; rfl
    | succ k ih=>
      intro hk
      have e:(List.replicate n zfX).getD k []=zfX:=by rw [List.getD_eq_getElem?_getD,List.getElem?_replicate,if_pos (by omega)]; rfl
      show xor8 (xsum _ k) (mul8 (getB ((List.replicate n zfX).getD k []) i) (f k))=0
      rw [ih (by omega),e,zj7,zne]; rfl
  exact this n (Nat.le_refl _)
def zmK (g:Geo):List (List Int):=List.replicate g.width.toNat zfX
theorem zCJ {g:Geo} (hk:g.ok=true):Row g (zmK g):=⟨by have:=zdb hk; simp [zmK]; omega,fun x hx=>by rw [(List.mem_replicate.1 hx).2]; exact zj6⟩
theorem zEs {g:Geo} {r d:Int} (hr:zcH g r=true) (d0:0≤d) (d1:d < g.d):atR g r (zmK g) d=zfX:=by
  unfold atR
  split
  · unfold sumP zmK; rw [List.length_replicate]; exact zya _
  · rename_i h1
    split
    · unfold sumQ zmK; rw [List.length_replicate]; exact zya _
    · rename_i h2
      obtain ⟨c0,c1,_⟩:=zla hr d0 d1 h1 h2
      unfold zmK
      rw [List.getD_eq_getElem?_getD,List.getElem?_replicate,if_pos (by omega)]; rfl
end Wf

namespace Wf
open Go Go.RowKit Go.Proofs
set_option linter.unusedSimpArgs false
set_option linter.unusedVariables false
set_option maxHeartbeats 4000000
theorem zy7 (l:List Bool):(l.map D.bool).all D.free=true:=by rw [List.all_map,List.all_eq_true]; intro b _; rfl
theorem zy8 {d k:Nat} (hk:k < d):((List.range d).map fun i=>D.bool (decide (i < k))).set k (.bool true)=(List.range d).map fun i=>D.bool (decide (i < k+1)):=by
  apply List.ext_getElem?
  intro j
  rw [List.getElem?_set]
  by_cases hj:j < d
  · by_cases hjk:k=j
    · subst hjk; simp [hj]
    · rw [if_neg hjk]
      simp only [List.getElem?_map,List.getElem?_range hj,Option.map_some,Option.some.injEq,D.bool.injEq,decide_eq_decide]
      omega
  · have h1:k≠j:=by omega
    rw [if_neg h1,List.getElem?_eq_none (by simp; omega),List.getElem?_eq_none (by simp; omega)]
theorem zCK {d:Nat} (h0:1≤d) (h8:d≤8):zbu [.int .i64 0,.int .i64 d]=some (.sl .own ((List.replicate d true).map D.bool)):=by
  rw [zll]
  unfold zfr
  rw [zaa (by omega),zaa (by rfl),zaa (by omega),zaa (by omega),zaa (by simp),zaa (by simp),Int.toNat_natCast]
  let st:Nat→(Int×Int×List D×Int×Int×PUnit)×PUnit:=fun k=>((0,(d:Int),(List.range d).map (fun i=>D.bool (decide (i < k))),(d:Int),(k:Int),PUnit.unit),PUnit.unit)
  have hst:st 0=((0,(d:Int),List.replicate d (D.bool false),(d:Int),0,PUnit.unit),PUnit.unit):=by
    have:(List.range d).map (fun i=>D.bool (decide (i < 0)))=List.replicate d (D.bool false):=by
      apply List.ext_getElem?; intro j
      by_cases hj:j < d
      · simp [hj]
      · rw [List.getElem?_eq_none (by simp; omega),List.getElem?_eq_none (by simp; omega)]
    simp only [st,this]; rfl
  rw [←hst]
  refine zb6 st d (by omega) ?_ ?_
  · intro again k hk
    dsimp only [st]
    have hd:decide ((k:Int) < (d:Int))=true:=by simp; omega
    have hg:((List.range d).map (fun i=>D.bool (decide (i < k))))[k]? =some (.bool false):=by simp [hk]
    rw [hd,za1,zaa (by omega),zaa (by simp; omega),Nat.zero_add,show Int.toNat (k:Int)=k from rfl,zai hg,zaa (by rfl),zaJ,zam (by omega) (by omega),zaa (by simp),zy8 hk]
    rfl
  · intro again
    dsimp only [st]
    have hd:decide ((d:Int) < (d:Int))=false:=by simp
    have hd1:decide ((d:Int) > 0)=true:=by simp; omega
    have hall:(List.range d).map (fun i=>D.bool (decide (i < d)))=(List.replicate d true).map D.bool:=by
      apply List.ext_getElem?; intro j
      by_cases hj:j < d
      · simp [hj]
      · rw [List.getElem?_eq_none (by simp; omega),List.getElem?_eq_none (by simp; omega)]
    have hz:decide ((0:Int) % 3 > 0)=false:=rfl
    have hz2:((0:Int) % 9 == 8)=false:=rfl
    rw [hd,zas,hd1,za1,zrh 0 3 (by omega) (by omega),zac,zbe,hz,zas,za1,zrh 0 9 (by omega) (by omega),zac,zbe,hz2,zas,zaa (by rfl),hall,zaa (zy7 _)]
end Wf

namespace Wf
open Go Go.RowKit
universe u
def idf {α:Sort u} (a:α):α:=a
@[simp] theorem zcD {α:Sort u} (a:α):idf a=a:=congrFun (funext fun _=>rfl) a
section
variable {R α β:Type}
@[congr high] theorem zF7 {b b':Bool} {x y:Option R} (h:idf b=b'):brK b x y=brK b' x y:=by rw [zcD] at h; rw [h]
@[congr high] theorem zES {x x':Option α} {f:α→Option R} (h:idf x=x'):zar x f=zar x' f:=by rw [zcD] at h; rw [h]
@[congr high] theorem zF8 {c c':Prop} [d:Decidable c] [d':Decidable c'] {x:Option R} (h:idf c=c'):sif c x=sif c' x:=by rw [zcD] at h; subst h; congr
@[congr high] theorem zFP {n n':Int} {f:Int→Option R} (h:idf n=n'):letN n f=letN n' f:=by rw [zcD] at h; rw [h]
@[congr high] theorem zFQ {l l':List α} {i i':Nat} {f:α→Option R} (h:idf l=l') (h':idf i=i'):getK l i f=getK l' i' f:=by rw [zcD] at h h'; rw [h,h']
@[congr high] theorem zF9 {k:IntKind} {d d':D} {f:Int→Option R} (h:idf d=d'):asI k d f=asI k d' f:=by rw [zcD] at h; rw [h]
@[congr high] theorem zGa {d d':D} {f:Bool→Option R} (h:idf d=d'):asB d f=asB d' f:=by rw [zcD] at h; rw [h]
@[congr high] theorem zGb {d d':D} {f:ByteArray→Option R} (h:idf d=d'):asS d f=asS d' f:=by rw [zcD] at h; rw [h]
@[congr high] theorem zFR {d d':D} {f:Tag→List D→Option R} (h:idf d=d'):asSl d f=asSl d' f:=by rw [zcD] at h; rw [h]
@[congr high] theorem zET {d d':D} {f:List D→Option R} (h:idf d=d'):za8 d f=za8 d' f:=by rw [zcD] at h; rw [h]
@[congr high] theorem zEt {d d':D} {f:List D→Option R} (h:idf d=d'):zlJ d f=zlJ d' f:=by rw [zcD] at h; rw [h]
@[congr high] theorem zEU {d d':D} {f:List D→Option R} (h:idf d=d'):asAgg d f=asAgg d' f:=by rw [zcD] at h; rw [h]
@[congr high] theorem zEV {d d':D} {f:List D→Option R} (h:idf d=d'):zev d f=zev d' f:=by rw [zcD] at h; rw [h]
@[congr high] theorem zFS {d d':D} {f:D→Option R} (h:idf d=d'):asAt d f=asAt d' f:=by rw [zcD] at h; rw [h]
@[congr high] theorem zEW {d d':List D} {f:D→Option R} (h:idf d=d'):zzW d f=zzW d' f:=by rw [zcD] at h; rw [h]
@[congr high] theorem zGc {k:Nat} {d d':D} {f:Nat→Option R} (h:idf d=d'):asH k d f=asH k d' f:=by rw [zcD] at h; rw [h]
@[congr high] theorem zEX {d d':D} {f:Bool→Option R} (h:idf d=d'):zm2 d f=zm2 d' f:=by rw [zcD] at h; rw [h]
@[congr high] theorem zEu {d d':D} {f:Bool→Option R} (h:idf d=d'):zqk d f=zqk d' f:=by rw [zcD] at h; rw [h]
@[congr high] theorem zEv {kk:MK} {d d':D} {f:List (Int×D)→Option R} (h:idf d=d'):zh1 kk d f=zh1 kk d' f:=by rw [zcD] at h; rw [h]
@[congr high] theorem zEY {kk:MK} {d d':D} {f:List (Int×D)→Option R} (h:idf d=d'):zql kk d f=zql kk d' f:=by rw [zcD] at h; rw [h]
@[congr high] theorem zFT {T T':Tb} {f:Tb→Option R} (h:idf T=T'):letT T f=letT T' f:=by rw [zcD] at h; rw [h]
@[congr high] theorem zEZ {l l':List α} {f:α→List α→Option R} (h:idf l=l'):zcl l f=zcl l' f:=by rw [zcD] at h; rw [h]
@[congr high] theorem zFU {l l':List α} {x:Option R} (h:idf l=l'):nilK l x=nilK l' x:=by rw [zcD] at h; rw [h]
@[congr high] theorem zCL {ls:List Lf} {d d':List D} {f:LfT ls→Option R} (h:idf d=d'):zaw ls d f=zaw ls d' f:=by rw [zcD] at h; rw [h]
@[congr high] theorem zE0 {B:(α→Option R)→α→Option R} {a a':α} (h:idf a=a'):zcb B a=zcb B a':=by rw [zcD] at h; rw [h]
end
@[simp] theorem zyb (k i:Nat):zgL (.h k i 0)=true:=rfl
@[simp] theorem zGD (k i:Nat):D.free (.h k i 0)=true:=rfl
@[simp] theorem zpc {R:Type} (a b:D) (f:LfT [.any,.any]→Option R):zaw [.any,.any] [a,b] f=f (a,b,()):=by rw [zc3,zc3,zdS]
@[simp] theorem zGd {β:Type} {l:List β} {n:Nat} (h:l.length=n):cut 0 n l=l:=by subst h; exact zdd l
end Wf

namespace Wf
open Go Go.RowKit Go.Proofs
set_option linter.unusedSimpArgs false
set_option linter.unusedVariables false
set_option maxHeartbeats 4000000
theorem zBj {T0:Tb} {b:Nat} {idx:List Nat}:∀ (l:List Act) (B:Ben),(∀ a∈l,a.isW=false)→P0 T0 b idx (does B l)=P0 T0 b idx B
  | [],B,_=>rfl
  | a::l,B,h=>by
    show P0 T0 b idx (does (B.does1 a) l)=_
    rw [zBj l _ fun a ha=>h a (List.mem_cons_of_mem _ ha)]
    have:=h a (List.mem_cons_self ..)
    cases a with
    | w d a x=>cases this
    | f d=>rfl
theorem zEw (B:Ben) (live:List Bool):∀ a∈B.fActs live,a.isW=false:=by
  intro a ha
  unfold Ben.fActs at ha
  obtain ⟨e,he,ha⟩:=List.mem_flatMap.1 ha
  split at ha
  · rw [List.mem_singleton.1 ha]; rfl
  · cases ha
structure Run (U V:Tb) (b:Nat) (idx:List Nat) (B:Ben) (n:Nat) (K:Int):Prop where
  at':At U V b idx B
  num:B.n=n
  down:B.down=false
  left:B.left= -1
  w:B.w≤K
theorem Run.mono {U V:Tb} {b:Nat} {idx:List Nat} {B:Ben} {n:Nat} {K L:Int} (h:Run U V b idx B n K) (hk:K≤L):Run U V b idx B n L:=⟨h.at',h.num,h.down,h.left,by have:=h.w; omega⟩
section
variable {U V:Tb} {b:Nat} {idx:List Nat} {B:Ben} {n:Nat} {K:Int}
theorem Run.up (h:Run U V b idx B n K) {d:Int} (d0:0≤d):B.up (List.replicate n true) d=(decide (d < n) && !B.failed d):=zFO h.num d0
theorem Run.is (h:Run U V b idx B n K) {d:Int} (d0:0≤d) (d1:d < n):B.is d=true:=zdw.2 ⟨d0,by rw [h.num]; exact d1⟩
theorem Run.write (h:Run U V b idx B n K) (hK:K≤900000) (tg:Tag) (live:List Bool) {g:Geo} {r:Int} (hr:zcH g r=true) (tg2:Tag) {data:List (List Int)} (hR:Row g data):∃ B1,
    zhL [.h kB b 0,.sl tg (live.map D.bool),.agg [.int .i64 g.l,.int .i64 g.d,.int .i64 g.c],.int .i64 r,.sl tg2 (pL (fP data))] [P0 U b idx B,P1 V idx B]=some (Ans.mk (.int .i64 0) [] [P0 U b idx B1,P1 V idx B1])∧
    Run U V b idx B1 n (K+8)∧(∀ e,B1.failed e=B.failed e)∧B1=does B (B.wActs live g r data)∧(∀ e a:Int,0≤e→e < g.d→0≤a→a < 52→B1.cur e a=if a=36+r∧B.up live e=true then atR g r data e else B.cur e a):=by
  obtain ⟨hw1,hD1⟩:=zw5 h.at'.ok h.down (live:=live) hr hR (.inl (by rw [h.left]; omega))
  have hdd:=ok_d (zbO.1 hr).1
  have hw:=h.w
  have hwd:=zdb (zbO.1 hr).1
  have hsw:=zvX h.at' (by omega) tg live g r tg2 (ps:=fP data) (by have:=hR.len; simp; omega) (by intro x hx; obtain ⟨y,hy,rfl⟩:=List.mem_map.1 hx; exact hR.sec y hy)
  rw [zsQ,hw1] at hsw
  have hn:=zx9 B live g r data
  have hnx:=hD1.nx.w
  refine ⟨does B (B.wActs live g r data),hsw,⟨h.at'.nx hD1.nx,hD1.nx.n.trans h.num,hD1.down.trans h.down,by rw [hD1.left,h.left]; rfl,by omega⟩,hD1.failed,rfl,fun e a e0 e1 a0 a1=>zBi hD1 e0 e1 a0 a1⟩
theorem Run.flush (h:Run U V b idx B n K) (hK:K≤900000) (tg:Tag) (live:List Bool):∃ B1,
    zhN [.h kB b 0,.sl tg (live.map D.bool)] [P0 U b idx B,P1 V idx B]=some (Ans.mk (.int .i64 0) [] [P1 V idx B1])∧P0 U b idx B=P0 U b idx B1∧
    Run U V b idx B1 n K∧(∀ e,B1.failed e=B.failed e)∧B1=does B (B.fActs live)∧(∀ e a:Int,0≤e→0≤a→a < 52→B1.cur e a=B.cur e a):=by
  obtain ⟨hw1,hD1⟩:=zw6 h.at'.ok h.down live (.inl (by rw [h.left]; omega))
  have hw:=h.w
  have hsf:=zvY h.at' (by omega) tg live
  rw [hw1] at hsf
  have hnx:=hD1.nx.w
  rw [zum] at hnx
  refine ⟨does B (B.fActs live),hsf,(zBj _ _ (zEw B live)).symm,⟨h.at'.nx hD1.nx,hD1.nx.n.trans h.num,hD1.down.trans h.down,by rw [hD1.left,h.left,zum]; rfl,by omega⟩,hD1.failed,rfl,fun e a e0 a0 a1=>zBh hD1 e0 a0 a1⟩
theorem Run.fail (h:Run U V b idx B n K) {d:Int} (d0:0≤d) (d1:d < n):∃ B1,
    za9 [.h kB b 0,.int .i64 d] [P0 U b idx B,P1 V idx B]=some (Ans.mk (.int .i64 0) [] [P1 V idx B1])∧P0 U b idx B=P0 U b idx B1∧
    Run U V b idx B1 n K∧(∀ e:Int,0≤e→e < n→B1.failed e=(decide (e=d) || B.failed e))∧B1=(B.fail d).2∧(∀ e a:Int,0≤e→e≠d→B1.cur e a=B.cur e a):=by
  have hd:=h.is d0 d1
  obtain ⟨f1,f2,f3,f4,f5⟩:=zBg hd
  have hf:=zFF h.at' d
  rw [f1] at hf
  have hp:P0 U b idx B=P0 U b idx (B.fail d).2:=by unfold Ben.fail; rw [if_pos hd]; rfl
  have hnx:=zD9 (d:=d) h.at'.ok
  refine ⟨(B.fail d).2,hf,hp,⟨h.at'.nx hnx,f2.trans h.num,f3.trans h.down,f4.trans h.left,by rw [f5]; exact h.w⟩,fun e e0 e1=>zw4 hd (h.is e0 e1),rfl,fun e a e0 hne=>zCH hd e0 hne⟩
theorem Run.read (h:Run U V b idx B n K) (hK:K≤900000) (tg:Tag) (live:List Bool) (g:Geo) (r:Int):
    zbZ [.h kB b 0,.sl tg (live.map D.bool),.agg [.int .i64 g.l,.int .i64 g.d,.int .i64 g.c],.int .i64 r] [P0 U b idx B,P1 V idx B]=some (Ans.mk (.tup [.sl .own (pL (fP (B.sRead live g r).1)),.int .i64 (B.sRead live g r).2]) [] []):=
  zrq h.at' (by have:=h.w; omega) tg live g r
end
end Wf

namespace Wf
open Go Go.RowKit Go.Proofs
set_option linter.unusedSimpArgs false
set_option linter.unusedVariables false
set_option maxHeartbeats 4000000
@[simp ↓] theorem zGE {R α:Type} (g:α→Option R) (f:(α→Option R)→Option R):jn g f=f g:=rfl
theorem zEx {R α:Type} {g:α→Option R} {f:(α→Option R)→Option R} {r:Option R} (I:α→Prop) (hg:∀ a,I a→g a=r) (hf:∀ j,(∀ a,I a→j a=r)→f j=r):jn g f=r:=hf g hg
section
variable {T0 T1:Tb} {b:Nat} {idx:List Nat} {B:Ben}
end
end Wf

namespace Wf
open Go Go.RowKit Go.Proofs
set_option linter.unusedSimpArgs false
set_option linter.unusedVariables false
set_option maxHeartbeats 4000000
def Ben.nP (B:Ben) (d:Int):Nat:=(B.dk d).pend.length
section
variable {B:Ben}
theorem zyc {a:Act} (h:a.Ok B) {e:Int} (e0:0≤e):(B.does1 a).nP e=match a with
    | .w d _ _=>if e=d then B.nP e+1 else B.nP e
    | .f d=>if e=d then 0 else B.nP e:=by
  cases a with
  | w d a x=>
    show (((B.junk ((B.dk d).write a x).2).less.setD d ((B.dk d).add a x)).dk e).pend.length=if e=d then B.nP e+1 else B.nP e
    rw [zfp (by simpa using h.1) e0]
    by_cases he:e=d
    · subst he; rw [if_pos rfl,if_pos rfl]; simp [DS.add,Ben.nP]
    · rw [if_neg he,if_neg he]; rfl
  | f d=>
    show ((B.setD d (B.dk d).flushed).dk e).pend.length=if e=d then 0 else B.nP e
    rw [zfp h.1 e0]
    by_cases he:e=d
    · subst he; rw [if_pos rfl,if_pos rfl]; rfl
    · rw [if_neg he,if_neg he]; rfl
theorem zEy {as':List Act} (hB:B.Ok):(∀ a∈as',a.Ok B)→(does B as').Ok∧∀ c:Act,c.Ok B→c.Ok (does B as'):=by
  induction as' generalizing B with
  | nil=>intro _; exact ⟨hB,fun c hc=>hc⟩
  | cons a l ih=>
    intro h
    have ha:=h a (List.mem_cons_self ..)
    obtain ⟨i1,i2⟩:=ih (zk8 hB ha).ok fun c hc=>zpK hB ha (h c (List.mem_cons_of_mem _ hc))
    exact ⟨i1,fun c hc=>i2 c (zpK hB ha hc)⟩
end
end Wf

namespace Wf
open Go Go.RowKit Go.Proofs
set_option linter.unusedSimpArgs false
set_option linter.unusedVariables false
set_option maxHeartbeats 4000000
end Wf

namespace Wf
open Go Go.RowKit Go.Proofs
set_option linter.unusedSimpArgs false
set_option linter.unusedVariables false
set_option maxHeartbeats 4000000
theorem zy9 {l:List Int} (h:l=[]∨Sec l):Sec (zjo 32 l):=by
  rcases h with rfl | h
  · rw [zvo]; exact zj6
  · rw [zqI h.len]; exact h
theorem zpP {ls:List (List Int)} {j:Nat} {x:List Int} (h:∀ y∈ls,Sec y) (hx:Sec x):∀ y∈ls.set j x,Sec y:=fun y hy=>by
  rcases List.mem_or_eq_of_mem_set hy with hy | hy
  · exact h y hy
  · rw [hy]; exact hx
theorem zza {p q:List Int} {ls o:List (List Int)} (hp:p=[]∨Sec p) (hq:q=[]∨Sec q) (hl:∀ l∈ls,l=[]∨Sec l) (h:zj9 p q ls=some o):∀ x∈o,Sec x:=by
  have hf:∀ x∈zcp ls,Sec x:=fun x hx=>by
    obtain ⟨y,hy,rfl⟩:=List.mem_map.1 hx
    exact zy9 (hl y hy)
  have hP:=ztJ hf
  have hQ:=ztK hf
  unfold zj9 at h
  split at h
  · cases h
  split at h
  · cases h
  rename_i hc
  rw [ztL] at hc
  split at h
  · rename_i j k hm
    rw [hm] at hc
    have hp1:Sec p:=hp.resolve_left fun e=>by rw [if_pos e] at hc; simp at hc
    have hq1:Sec q:=hq.resolve_left fun e=>by rw [if_pos e] at hc; simp at hc
    cases h
    have hX:Sec (twoX p q (zcp ls) j k):=znf _ (zhz (zhz hq1 hQ) (znf _ (zhz hp1 hP)))
    exact zpP (zpP hf hX) (zhz (zhz hp1 hP) hX)
  · rename_i j hm
    rw [hm] at hc
    split at h
    · rename_i h0
      have hp1:Sec p:=hp.resolve_left fun e=>by rw [e] at h0; simp at h0
      cases h
      exact zpP hf (zhz hp1 hP)
    · rename_i h0
      have hp0:p=[]:=by cases p; rfl; simp at h0
      have hq1:Sec q:=hq.resolve_left fun e=>by rw [if_pos e,if_pos hp0] at hc; simp at hc
      cases h
      exact zpP hf (znf _ (zhz hq1 hQ))
  · cases h; exact hf
section
variable {B:Ben}
theorem zBk (hB:B.Ok) {d a:Int} (a0:0≤a) (a1:a < 52):Sec (B.cur d a):=zFr (zmc hB d).1 a0 a1
theorem zv3 (hB:B.Ok) {live:List Bool} {g:Geo} {r:Int} (h:(B.sRead live g r).2=0):Row g (B.sRead live g r).1∧zcH g r=true:=by
  unfold Ben.sRead at h ⊢
  split at h
  · exact absurd h (by decide)
  rename_i hr
  have hr:zcH g r=true:=by simpa using hr
  rw [if_neg (by simp [hr])]
  split at h
  · exact absurd h (by decide)
  rename_i hd
  rw [if_neg hd]
  cases ht:zrz g r (B.secs live r g.d.toNat) with
  | none=>rw [ht] at h; exact absurd h (by decide)
  | some o=>
    refine ⟨⟨?_,?_⟩,hr⟩
    · have:=zCD ht
      have:=zdb (zbO.1 hr).1
      show (o.length:Int)=_
      omega
    · obtain ⟨hk,r0,r1⟩:=zbO.1 hr
      have hs:∀ j:Nat,(B.secs live r g.d.toNat).getD j []=[]∨Sec ((B.secs live r g.d.toNat).getD j []):=by
        intro j
        unfold Ben.secs
        rw [List.getD_eq_getElem?_getD,List.getElem?_map]
        cases (List.range g.d.toNat)[j]? with
        | none=>exact .inl rfl
        | some d=>
          show (if B.up live d=true then _ else _)=[]∨Sec (if B.up live d=true then _ else _)
          split
          · exact .inr (zBk hB (by omega) (by omega))
          · exact .inl rfl
      unfold zrz at ht
      split at ht
      rotate_left
      · cases ht
      refine zza (hs _) ?_ (fun l hl=>?_) ht
      · unfold qOf
        split
        · exact .inl rfl
        · exact hs _
      · obtain ⟨j,_,rfl⟩:=List.mem_map.1 hl
        exact hs _
end
def mayR (a to:Geo) (split:Int):Bool:=a.ok && decide (0≤split) && decide (split≤16) && (decide (split=0) || to.ok)
theorem rebuild_may (a to:Geo) (split:Int):zbX [.agg [.int .i64 a.l,.int .i64 a.d,.int .i64 a.c],.agg [.int .i64 to.l,.int .i64 to.d,.int .i64 to.c],.int .i64 split]=some (.bool (mayR a to split)):=by
  rw [zpi]
  unfold ziP mayR
  have h1:zaj [.agg [.int .i64 a.l,.int .i64 a.d,.int .i64 a.c]]=some (.int .i64 (if a.ok then 0 else 1)):=zfD a.l a.d a.c
  have h2:zaj [.agg [.int .i64 to.l,.int .i64 to.d,.int .i64 to.c]]=some (.int .i64 (if to.ok then 0 else 1)):=zfD to.l to.d to.c
  cases hk:a.ok<;>rw [hk] at h1
  · simp [h1]
  · cases hk2:to.ok<;>rw [hk2] at h2<;>by_cases c1:0≤split<;>by_cases c2:split≤16<;>by_cases c3:split=0<;>simp [zcc,h1,h2,c1,c2,c3]<;>omega
def gAt (a to:Geo) (split:Int) (r:Nat):Geo:=if (r:Int) < split then to else a
def Ben.rOne (B:Ben) (live:List Bool) (d:Int) (g:Geo) (r:Int):Int×Ben:=
  if (B.sRead live g r).2≠0 then ((B.sRead live g r).2,B) else B.write d (36+r) (atR g r (B.sRead live g r).1 d)
def Ben.rStep (live:List Bool) (d:Int) (a to:Geo) (split:Int) (r:Nat) (B:Ben):Int×Ben:=
  if (gAt a to split r).d≤d then (0,B) else B.rOne live d (gAt a to split r) r
def Ben.rRows (B:Ben) (live:List Bool) (d:Int) (a to:Geo) (split:Int):Int×Ben:=
  if (runE (Ben.rStep live d a to split) 0 16 B).1=0 then (runE (Ben.rStep live d a to split) 0 16 B).2.flush d else runE (Ben.rStep live d a to split) 0 16 B
def Ben.rDisk (B:Ben) (live:List Bool) (d:Int) (a to:Geo) (split:Int):Int×Ben:=
  if d < 0∨B.n≤d∨(live[d.toNat]?).getD false=true∨mayR a to split=false then (1,B)
  else if B.failed d=true then (5,B) else B.rRows live d a to split
section
variable {T0 T1:Tb} {b:Nat} {idx:List Nat} {B:Ben}
theorem zBl (hB:B.Ok) {live:List Bool} {d:Int} {g:Geo} {r:Int} (d0:0≤d) (d1:d < g.d):Nx 1 B (B.rOne live d g r).2∧Like B (B.rOne live d g r).2:=by
  unfold Ben.rOne
  split
  · exact ⟨.rfl' hB (by omega),.refl B⟩
  · rename_i h
    obtain ⟨hR,hr⟩:=zv3 hB (Classical.not_not.1 h)
    exact ⟨zxR hB (.inl (zvw hr hR d0 d1)),zsV ..⟩
theorem rebuild_one (h:At T0 T1 b idx B) (hw:B.w≤1000000) (tg:Tag) (live:List Bool) {d:Int} {g:Geo} {r:Int} (d0:0≤d) (d1:d < g.d):
    zbB [.h kB b 0,.sl tg (live.map D.bool),.int .i64 d,.agg [.int .i64 g.l,.int .i64 g.d,.int .i64 g.c],.int .i64 r] [P0 T0 b idx B,P1 T1 idx B]=
      some (Ans.mk (.int .i64 (B.rOne live d g r).1) [] [P0 T0 b idx (B.rOne live d g r).2,P1 T1 idx (B.rOne live d g r).2]):=by
  rw [zpz,ziw]
  unfold ziY Ben.rOne
  have hrd:=zrq h hw .lent live g r
  by_cases he:(B.sRead live g r).2=0
  · obtain ⟨hR,hr⟩:=zv3 h.ok he
    obtain ⟨hk,r0,r1⟩:=zbO.1 hr
    have hw2:=zdb hk
    have hdd:=ok_d hk
    rw [he] at hrd
    rw [if_neg (by simp [he])]
    generalize (B.sRead live g r).1=data at*
    have hlen:=hR.len
    have hfill:=zx8 g r .lent (ps:=fP data) (by simp; omega)
    rw [zsQ,zqU hr hR] at hfill
    have hg:(pL (fP (zcP g r data)))[d.toNat]? =some (.sl .fresh (uL (atR g r data d))):=zcJ (zvR (by
      have:=zh9 (g:=g) (r:=r) (data:=data) (d:=d.toNat) (by omega)
      rw [show ((d.toNat:Nat):Int)=d by omega] at this; exact this))
    have hwr:=zAV h hw d (36+r) .fresh (atR g r data d)
    have hrl:=zlb g r data
    simp (disch:=first | omega | assumption | (simp; done) | fail) [-List.all_eq_true,hrd,zoH,hfill,solD,zam,zai hg,hwr,hrl,d0]
  · simp [-List.all_eq_true,hrd,he]
theorem zpd (h:At T0 T1 b idx B) (hw:B.w≤999000) (tg:Tag) (live:List Bool) (d:Int) (a to:Geo) (split:Int):
    zaO [.h kB b 0,.sl tg (live.map D.bool),.int .i64 d,.agg [.int .i64 a.l,.int .i64 a.d,.int .i64 a.c],.agg [.int .i64 to.l,.int .i64 to.d,.int .i64 to.c],.int .i64 split] [P0 T0 b idx B,P1 T1 idx B]=
      some (Ans.mk (.int .i64 (B.rDisk live d a to split).1) [] [P0 T0 b idx (B.rDisk live d a to split).2,P1 T1 idx (B.rDisk live d a to split).2]):=by
  rw [zoz,ziw]
  unfold zhI Ben.rDisk
  have hl:=zy0 h
  have hm:=rebuild_may a to split
  have hf:=zxY h d
  by_cases c0:d < 0
  · simp [c0]
  by_cases c1:B.n≤d
  · simp [c0,c1,hl]
  have loop:mayR a to split=true→B.failed d=false→∀ (X:Option Ans),X=zcb (α:=(Nat×List D×Int×Int×(Int×Int×Int×PUnit)×(Int×Int×Int×PUnit)×Int×PUnit)×List (List D)×List (List D)×PUnit) (fun again9 ((x10,(l11,(i12,(i13,((i14,(i15,(i16,_))),((i17,(i18,(i19,_))),(i20,_))))))),(U21,(U22,_)))=>
                brK (decide (i20 < (16:Int)))
                  (brK (decide (i20 < i13))
                    (brK (decide (i12≥i18))
                      (letN (IntKind.wrap IntKind.i64 (i20+(1:Int))) fun n23=>
                      again9 (((x10,l11,i12,i13,(i14,i15,i16,PUnit.unit),(i17,i18,i19,PUnit.unit),n23,PUnit.unit),U21,U22,PUnit.unit)))
                      (zar (zbB [D.h (3840) x10 (0:Nat),D.sl Tag.lent l11,D.int IntKind.i64 i12,D.agg [D.int IntKind.i64 i17,D.int IntKind.i64 i18,D.int IntKind.i64 i19],D.int IntKind.i64 i20] [U21,U22]) fun r24=>
                      nilK r24.outs <|
                      zcl r24.tbs fun c25 q26=>
                      zcl q26 fun c27 q28=>
                      nilK q28 <|
                      asI IntKind.i64 r24.r fun i29=>
                      brK (i29 != (0:Int))
                        (some (Ans.mk (D.int IntKind.i64 i29) [] [c25,c27]))
                        (letN (IntKind.wrap IntKind.i64 (i20+(1:Int))) fun n30=>
                        again9 (((x10,l11,i12,i13,(i14,i15,i16,PUnit.unit),(i17,i18,i19,PUnit.unit),n30,PUnit.unit),c25,c27,PUnit.unit)))))
                    (brK (decide (i12≥i15))
                      (letN (IntKind.wrap IntKind.i64 (i20+(1:Int))) fun n31=>
                      again9 (((x10,l11,i12,i13,(i14,i15,i16,PUnit.unit),(i17,i18,i19,PUnit.unit),n31,PUnit.unit),U21,U22,PUnit.unit)))
                      (zar (zbB [D.h (3840) x10 (0:Nat),D.sl Tag.lent l11,D.int IntKind.i64 i12,D.agg [D.int IntKind.i64 i14,D.int IntKind.i64 i15,D.int IntKind.i64 i16],D.int IntKind.i64 i20] [U21,U22]) fun r32=>
                      nilK r32.outs <|
                      zcl r32.tbs fun c33 q34=>
                      zcl q34 fun c35 q36=>
                      nilK q36 <|
                      asI IntKind.i64 r32.r fun i37=>
                      brK (i37 != (0:Int))
                        (some (Ans.mk (D.int IntKind.i64 i37) [] [c33,c35]))
                        (letN (IntKind.wrap IntKind.i64 (i20+(1:Int))) fun n38=>
                        again9 (((x10,l11,i12,i13,(i14,i15,i16,PUnit.unit),(i17,i18,i19,PUnit.unit),n38,PUnit.unit),c33,c35,PUnit.unit))))))
                  (zar (zaA [D.h (3840) x10 (0:Nat),D.int IntKind.i64 i12] [U21,U22]) fun r39=>
                  nilK r39.outs <|
                  zcl r39.tbs fun c40 q41=>
                  nilK q41 <|
                  asI IntKind.i64 r39.r fun i42=>
                  some (Ans.mk (D.int IntKind.i64 i42) [] [U21,c40])))
                (((b,live.map D.bool,d,split,(a.l,a.d,a.c,PUnit.unit),(to.l,to.d,to.c,PUnit.unit),(0:Int),PUnit.unit),P0 T0 b idx B,P1 T1 idx B,PUnit.unit))→X=some (Ans.mk (.int .i64 (B.rRows live d a to split).1) [] [P0 T0 b idx (B.rRows live d a to split).2,P1 T1 idx (B.rRows live d a to split).2]):=by
    intro hmay hfd X hX
    rw [hX]
    clear hX
    let st:Nat→Ben→(Nat×List D×Int×Int×(Int×Int×Int×PUnit)×(Int×Int×Int×PUnit)×Int×PUnit)×List (List D)×List (List D)×PUnit:=fun k B'=>
      ((b,live.map D.bool,d,split,(a.l,a.d,a.c,PUnit.unit),(to.l,to.d,to.c,PUnit.unit),(k:Int),PUnit.unit),P0 T0 b idx B',P1 T1 idx B',PUnit.unit)
    have hst:st 0 B=((b,live.map D.bool,d,split,(a.l,a.d,a.c,PUnit.unit),(to.l,to.d,to.c,PUnit.unit),0,PUnit.unit),P0 T0 b idx B,P1 T1 idx B,PUnit.unit):=rfl
    rw [←hst]
    have hrr:B.rRows live d a to split=(fun y:Int×Ben=>if y.1=0 then y.2.flush d else y) (runE (Ben.rStep live d a to split) 0 16 B):=rfl
    rw [hrr]
    refine zqO (Ben.rStep live d a to split) (fun k B'=>Nx k B B') st (fun y=>some (Ans.mk (.int .i64 (if y.1=0 then y.2.flush d else y).1) [] [P0 T0 b idx (if y.1=0 then y.2.flush d else y).2,P1 T1 idx (if y.1=0 then y.2.flush d else y).2])) 16 (by omega) (.rfl' h.ok (by omega)) ?_ ?_ ?_
    · rintro k B' hk' hx _
      unfold Ben.rStep
      split
      · exact hx.mono (by omega)
      · exact (hx.trans (zBl hx.ok (by omega) (by omega)).1).mono (by omega)
    · rintro again k B' hk' hx
      dsimp only [st]
      have hA:=h.nx hx
      have hxw:=hx.w
      have hw':B'.w≤1000000:=by omega
      have hk16:(k:Int) < 16:=by omega
      unfold Ben.rStep gAt
      by_cases hs:(k:Int) < split
      · rw [if_pos hs]
        by_cases hd:to.d≤d
        · rw [if_pos hd]
          simp (disch:=first | omega | assumption | (simp; done) | fail) [hk16,hs,hd,zam]
        · rw [if_neg hd]
          have hone:=rebuild_one hA hw' .lent live (d:=d) (g:=to) (r:=(k:Int)) (by omega) (by omega)
          by_cases he:(B'.rOne live d to k).1=0
          · simp (disch:=first | omega | assumption | (simp; done) | fail) [hk16,hs,hd,zam,hone,he]
          · simp (disch:=first | omega | assumption | (simp; done) | fail) [hk16,hs,hd,zam,hone,he]
      · rw [if_neg hs]
        by_cases hd:a.d≤d
        · rw [if_pos hd]
          simp (disch:=first | omega | assumption | (simp; done) | fail) [hk16,hs,hd,zam]
        · rw [if_neg hd]
          have hone:=rebuild_one hA hw' .lent live (d:=d) (g:=a) (r:=(k:Int)) (by omega) (by omega)
          by_cases he:(B'.rOne live d a k).1=0
          · simp (disch:=first | omega | assumption | (simp; done) | fail) [hk16,hs,hd,zam,hone,he]
          · simp (disch:=first | omega | assumption | (simp; done) | fail) [hk16,hs,hd,zam,hone,he]
    · rintro again B' hx
      dsimp only [st]
      have hA:=h.nx hx
      have hxw:=hx.w
      have hfl:=zAW hA (by omega) d
      have hp:P0 T0 b idx (B'.flush d).2=P0 T0 b idx B':=by unfold Ben.flush; split<;>rfl
      simp [hfl,hp]
  by_cases c2:d < (live.length:Int)
  · have hgl:(live.map D.bool)[d.toNat]? =some (.bool ((live[d.toNat]?).getD false)):=by
      rw [List.getElem?_map,List.getElem?_eq_getElem (by omega)]; rfl
    generalize (live[d.toNat]?).getD false=lv at*
    cases lv with
    | true=>simp [c0,c1,c2,hl,zai hgl,show 0≤d by omega]
    | false=>
      cases c4:mayR a to split
      · rw [c4] at hm
        simp [c0,c1,c2,hl,zai hgl,show 0≤d by omega,hm]
      · rw [c4] at hm
        cases c5:B.failed d
        · rw [c5] at hf
          rw [if_neg (by simp; omega),if_neg (by simp)]
          refine Eq.trans ?_ (loop c4 c5 _ rfl)
          simp [c0,c1,c2,hl,zai hgl,show 0≤d by omega,hm,hf]
        · rw [c5] at hf
          simp [c0,c1,c2,hl,zai hgl,show 0≤d by omega,hm,hf]
  · have c3':(live[d.toNat]?).getD false=false:=by rw [List.getElem?_eq_none (by omega)]; rfl
    rw [c3']
    cases c4:mayR a to split
    · rw [c4] at hm
      simp [c0,c1,c2,hl,hm]
    · rw [c4] at hm
      cases c5:B.failed d
      · rw [c5] at hf
        rw [if_neg (by simp; omega),if_neg (by simp)]
        refine Eq.trans ?_ (loop c4 c5 _ rfl)
        simp [c0,c1,c2,hl,hm,hf]
      · rw [c5] at hf
        simp [c0,c1,c2,hl,hm,hf]
end
end Wf

namespace Wf
open Go Go.RowKit
set_option linter.unusedSimpArgs false
set_option linter.unusedVariables false
theorem zEz {c r w m row j:Int} (hc:c=1∨c=2∨c=4) (hr:r=1∨r=2∨r=4) (hcr:c≤r) (hw:2≤w∧w≤7) (j0:0≤j) (j1:j < w) (h0:0≤row) (h:row < m*r):(row / c*w+j)*c+row % c < m*(r*w):=by
  have hw:w=2∨w=3∨w=4∨w=5∨w=6∨w=7:=by omega
  rcases hc with rfl | rfl | rfl<;>rcases hr with rfl | rfl | rfl<;>first | (exfalso; omega) | (rcases hw with rfl | rfl | rfl | rfl | rfl | rfl<;>omega)
theorem zCM {c r w m row j:Int} (hc:c=1∨c=2∨c=4) (hr:r=1∨r=2∨r=4) (hcr:c≤r) (hw:2≤w∧w≤7) (j0:0≤j) (j1:j < w) (h0:0≤row) (h:m*r≤row):m*(r*w)≤(row / c*w+j)*c+row % c:=by
  have hw:w=2∨w=3∨w=4∨w=5∨w=6∨w=7:=by omega
  rcases hc with rfl | rfl | rfl<;>rcases hr with rfl | rfl | rfl<;>first | (exfalso; omega) | (rcases hw with rfl | rfl | rfl | rfl | rfl | rfl<;>omega)
theorem zEA {x y:Geo} {k:Int} (h0:0≤k) (h1:k < winP x y):zoc x y k=(k*(zcX x y*y.width),(k+1)*(zcX x y*y.width)):=by
  unfold zoc; rw [if_neg (by omega)]
theorem zEB {x y:Geo} {k:Int} (h0:0≤k) (h1:k < winP x y):x.can y=true:=by
  cases h:x.can y
  · have:=(zEd h).2; omega
  · rfl
structure Win (x y:Geo) (k:Int):Prop where
  can:x.can y=true
  xok:x.ok=true
  yok:y.ok=true
  r:zcX x y=1∨zcX x y=2∨zcX x y=4
  xc:x.c≤zcX x y
  yc:y.c≤zcX x y
  r0:0≤k*zcX x y
  r1:(k+1)*zcX x y≤16
  rr:(k+1)*zcX x y=k*zcX x y+zcX x y
  s1:(zoc x y k).1=k*(zcX x y*y.width)
  s2:(zoc x y k).2=(k+1)*(zcX x y*y.width)
  ss:(zoc x y k).2=(zoc x y k).1+zcX x y*y.width
  s0:0≤(zoc x y k).1
  se:(zoc x y k).2≤y.cap
  m:2≤zcX x y*y.width∧zcX x y*y.width≤28
theorem zFV {x y:Geo} {k:Int} (h0:0≤k) (h1:k < winP x y):Win x y k:=by
  have hc:=zEB h0 h1
  obtain ⟨k1,k2,k3,k4,k5,k6⟩:=zwJ.1 hc
  obtain ⟨e1,e2⟩:=zAG hc
  obtain ⟨e3,e4,e5⟩:=zFy hc
  have hw:=zdb k2
  have hs:=zEA h0 h1
  have hx:=(zeK.1 k1).2.2
  have hy:=(zeK.1 k2).2.2
  have rr:(k+1)*zcX x y=k*zcX x y+zcX x y:=by rw [Int.add_mul,Int.one_mul]
  have ss:(k+1)*(zcX x y*y.width)=k*(zcX x y*y.width)+zcX x y*y.width:=by rw [Int.add_mul,Int.one_mul]
  have hm:2≤zcX x y*y.width∧zcX x y*y.width≤28:=by rcases e2 with e | e | e<;>rw [e]<;>omega
  have hr0:0≤k*zcX x y:=Int.mul_nonneg h0 (by omega)
  have hr1:(k+1)*zcX x y≤16:=by
    rw [←e5]
    exact Int.mul_le_mul_of_nonneg_right (by omega) (by omega)
  refine ⟨hc,k1,k2,e2,by omega,by omega,hr0,hr1,rr,by rw [hs],by rw [hs],by rw [hs]; exact ss,by rw [hs]; exact Int.mul_nonneg h0 (by omega),?_,hm⟩
  rw [hs]
  show (k+1)*(zcX x y*y.width)≤y.width*16
  rw [←Int.mul_assoc,Int.mul_comm y.width 16]
  exact Int.mul_le_mul_of_nonneg_right hr1 (by omega)
theorem zCN {x y:Geo} {k r j:Int} (h:Win x y k) (r0:k*zcX x y≤r) (r1:r < (k+1)*zcX x y) (j0:0≤j) (j1:j < y.width):(zoc x y k).1≤numP y r j∧numP y r j < (zoc x y k).2:=by
  have hw:=zdb h.yok
  have hy:=(zeK.1 h.yok).2.2
  have:=h.r0
  rw [h.s1,h.s2]
  unfold numP
  exact ⟨zCM hy h.r h.yc hw j0 j1 (by omega) r0,zEz hy h.r h.yc hw j0 j1 (by omega) r1⟩
end Wf

namespace Wf
open Go Go.RowKit Go.Proofs
set_option linter.unusedSimpArgs false
set_option linter.unusedVariables false
set_option maxHeartbeats 4000000
section
variable (a to:Geo) (k:Int)
end
def Act.sec:Act→Prop
  | .w _ _ x=>Sec x
  | .f _=>True
def rowW (a to:Geo) (k:Int) (data:List (List Int)) (r:Int):List (List Int):=(List.range to.width.toNat).map fun (j:Nat)=>data.getD (numP to r j - (zoc a to k).1).toNat []
section
variable {T0 T1:Tb} {b:Nat} {idx:List Nat} {B:Ben}
end
end Wf

namespace Wf
open Go Go.RowKit Go.Proofs
set_option linter.unusedSimpArgs false
set_option linter.unusedVariables false
set_option maxHeartbeats 4000000
theorem zsX {σ:Type} {f g:Nat→σ→Int×σ} (I:Nat→σ→Prop):∀ (n k:Nat) (s:σ),I k s→(∀ j s,k≤j→j < k+n→I j s→f j s=g j s)→(∀ j s,k≤j→j < k+n→I j s→(f j s).1=0→I (j+1) (f j s).2)→runE f k n s=runE g k n s
  | 0,k,s,_,_,_=>rfl
  | n+1,k,s,hI,h1,h2=>by
    unfold runE
    have e:=h1 k s (by omega) (by omega) hI
    have h3:=h2 k s (by omega) (by omega) hI
    rw [←e]
    by_cases h0:(f k s).1=0
    · rw [if_pos h0,if_pos h0]
      exact zsX I n (k+1) _ (h3 h0) (fun j s a b=>h1 j s (by omega) (by omega)) fun j s a b=>h2 j s (by omega) (by omega)
    · rw [if_neg h0,if_neg h0]
section
variable {B B':Ben} {live:List Bool}
def Act.d:Act→Int
  | .w d _ _=>d
  | .f d=>d
theorem zBm {e:Int} (e0:0≤e):∀ (l:List Act) {B:Ben},B.Ok→(∀ a∈l,a.Ok B)→(∀ a∈l,a.d≠e)→(does B l).nP e=B.nP e
  | [],B,_,_,_=>rfl
  | a::l,B,hB,h1,h2=>by
    have ha:=h1 a (List.mem_cons_self ..)
    show (does (B.does1 a) l).nP e=_
    rw [zBm e0 l (zk8 hB ha).ok (fun c hc=>zpK hB ha (h1 c (List.mem_cons_of_mem _ hc))) fun c hc=>h2 c (List.mem_cons_of_mem _ hc),zyc ha e0]
    have:=h2 a (List.mem_cons_self ..)
    cases a with
    | w d a x=>exact if_neg (fun q=>this q.symm)
    | f d=>exact if_neg (fun q=>this q.symm)
end
section
variable {a to:Geo} {k:Int} {data:List (List Int)}
structure WinD (a to:Geo) (k:Int) (data:List (List Int)):Prop where
  k0:0≤k
  k1:k < winP a to
  len:(data.length:Int)=(zoc a to k).2 - (zoc a to k).1
  sec:∀ x∈data,Sec x
theorem WinD.win (h:WinD a to k data):Win a to k:=zFV h.k0 h.k1
theorem WinD.row (h:WinD a to k data) {r:Int} (r0:k*zcX a to≤r) (r1:r < (k+1)*zcX a to):Row to (rowW a to k data r)∧zcH to r=true:=by
  have hW:=h.win
  have:=hW.r0
  have:=hW.r1
  have hyw:=zdb hW.yok
  have hl:=h.len
  refine ⟨⟨by simp [rowW]; omega,fun x hx=>?_⟩,zbO.2 ⟨hW.yok,by omega,by omega⟩⟩
  obtain ⟨j,hj,rfl⟩:=List.mem_map.1 hx
  have hj:=List.mem_range.1 hj
  obtain ⟨n0,n1⟩:=zCN hW r0 r1 (j:=(j:Int)) (by omega) (by omega)
  exact h.sec _ (zdp (by omega))
variable {B:Ben} {live:List Bool}
end
section
variable {U V:Tb} {b:Nat} {idx:List Nat} {B:Ben} {n:Nat} {K:Int}
theorem zEC (T0 T1:Tb) {n:Nat} (h0:1≤n) (h8:n≤8):∃ U V idx,
    zbq [.int .i64 n] [T0,T1]=some (Ans.mk (.tup [.h kB T0.length 0,.int .i64 0]) [] [P0 U T0.length idx (Ben.new n),P1 V idx (Ben.new n)])∧
    Run U V T0.length idx (Ben.new n) n 0∧Still (Ben.new n):=
  ⟨_,_,_,zFN T0 T1 h0 h8,⟨zBc T0 T1 h8,by simp [Ben.new,Ben.n],rfl,rfl,Int.le_refl _⟩,zv0 h8⟩
end
end Wf

namespace Wf
open Go Go.RowKit Go.Proofs
set_option linter.unusedSimpArgs false
set_option linter.unusedVariables false
set_option maxHeartbeats 4000000
end Wf

namespace Wf
open Go Go.RowKit Go.Proofs
set_option linter.unusedSimpArgs false
set_option linter.unusedVariables false
set_option maxHeartbeats 4000000
section
variable {B:Ben}
theorem zzb {d a:Int} {x:List Int} (h:(B.write d a x).1=0):(B.write d a x).2.down=B.down∧∀ e b:Int,0≤e→e≠d→(B.write d a x).2.cur e b=B.cur e b:=by
  unfold Ben.write at h ⊢
  split at h
  · rename_i h0; exact absurd h h0
  rename_i h0
  rw [if_neg h0]
  split at h
  · rename_i h1; exact absurd h h1
  rename_i h1
  rw [if_neg h1]
  split at h
  · exact absurd (show (6:Int)=0 from h) (by decide)
  rename_i h2
  rw [if_neg h2]
  have hd:=may0.1 (Classical.not_not.1 h0)
  refine ⟨rfl,fun e b e0 he=>?_⟩
  unfold Ben.cur
  rw [zfp (by simpa using hd.1) e0,if_neg he]
  rfl
def rAct (dat:Nat→List (List Int)) (d:Int) (a to:Geo) (split:Int) (r:Nat):List Act:=if (gAt a to split r).d≤d then [] else [.w d (36+r) (atR (gAt a to split r) r (dat r) d)]
def zjN (dat:Nat→List (List Int)) (d:Int) (a to:Geo) (split:Int) (m:Nat):List Act:=(List.range m).flatMap (rAct dat d a to split)
def zzc (B:Ben) (live:List Bool) (d:Int) (a to:Geo) (split:Int) (dat:Nat→List (List Int)):Prop:=
  ∀ r:Nat,r < 16→d < (gAt a to split r).d→Row (gAt a to split r) (dat r)∧(B.lostN live (gAt a to split r):Int)≤(gAt a to split r).l - 4∧
    ∀ e:Int,0≤e→e < (gAt a to split r).d→B.up live e=true→B.cur e (36+r)=atR (gAt a to split r) r (dat r) e
theorem zun {a to:Geo} {split:Int}:mayR a to split=true↔a.ok=true∧0≤split∧split≤16∧(split=0∨to.ok=true):=by unfold mayR; simp [and_assoc]
theorem zyd {a to:Geo} {split:Int} (h:mayR a to split=true) (r:Nat):(gAt a to split r).ok=true:=by
  obtain ⟨h1,h2,h3,h4⟩:=zun.1 h
  unfold gAt
  split
  · exact h4.resolve_left (by omega)
  · exact h1
theorem zuo {a to:Geo} {split:Int} (h:mayR a to split=true) {r:Nat} (hr:r < 16):zcH (gAt a to split r) r=true:=zbO.2 ⟨zyd h r,by omega,by omega⟩
theorem Like.lostN {B':Ben} (h:Like B B') (live:List Bool) (g:Geo):B'.lostN live g=B.lostN live g:=by unfold Ben.lostN; simp only [h.up]
theorem zye {live:List Bool} {d:Int} (h:(live[d.toNat]?).getD false=false):B.up live d=false:=by unfold Ben.up; rw [h]; simp
theorem zzd (hB:B.Ok) (hdn:B.down=false) {live:List Bool} {d:Int} {a to:Geo} {split:Int} {dat:Nat→List (List Int)} (d0:0≤d) (d1:d < B.n) (hl:(live[d.toNat]?).getD false=false) (hm:mayR a to split=true)
    (hf:B.failed d=false) (hS:zzc B live d a to split dat):B.rDisk live d a to split=runA (zjN dat d a to split 16++[.f d]) B:=by
  unfold Ben.rDisk
  rw [if_neg (by rw [hl,hm]; simp; omega),hf,if_neg (by simp)]
  unfold Ben.rRows
  have hrows:runE (Ben.rStep live d a to split) 0 16 B=runA (zjN dat d a to split 16) B:=by
    unfold zjN
    rw [zsX (g:=fun r B'=>runA (rAct dat d a to split r) B') (fun _ B'=>B'.Ok∧Like B B'∧B'.down=false∧∀ e b:Int,0≤e→e≠d→B'.cur e b=B.cur e b) _ _ _ ⟨hB,.refl B,hdn,fun _ _ _ _=>rfl⟩ ?_ ?_,znO,List.range_eq_range']
    · rintro r B' _ hr ⟨hB',hL,hdn',hc⟩
      unfold Ben.rStep rAct
      split
      · rfl
      · rename_i hd
        obtain ⟨hR,hlo,hrow⟩:=hS r (by omega) (by omega)
        have hrd:=zCb (B:=B') (live:=live) (zuo hm (r:=r) (by omega)) hR hdn' fun e e0 e1 hu=>by
          rw [hL.up] at hu
          rw [hc e _ e0 (by rintro rfl; rw [zye hl] at hu; cases hu),hrow e e0 e1 hu]
        rw [hL.lostN,if_pos hlo] at hrd
        unfold Ben.rOne
        rw [hrd,if_neg (by simp),zlf]
        rfl
    · rintro r B' _ hr ⟨hB',hL,hdn',hc⟩ he
      unfold Ben.rStep at he ⊢
      split
      · exact ⟨hB',hL,hdn',hc⟩
      · rename_i hd
        rw [if_neg hd] at he
        obtain ⟨hx,hL2⟩:=zBl hB' (live:=live) (d:=d) (g:=gAt a to split r) (r:=r) d0 (by omega)
        unfold Ben.rOne at he hx hL2 ⊢
        split at he
        · rename_i h0; exact absurd he h0
        · rename_i h0
          rw [if_neg h0] at hx hL2 ⊢
          obtain ⟨h1,h2⟩:=zzb he
          exact ⟨hx.ok,hL.trans hL2,h1.trans hdn',fun e b e0 hne=>(h2 e b e0 hne).trans (hc e b e0 hne)⟩
  rw [hrows,zme]
  by_cases h0:(runA (zjN dat d a to split 16) B).1=0
  · rw [if_pos h0,if_pos h0,zlf]; rfl
  · rw [if_neg h0,if_neg h0]
theorem zv4 {dat:Nat→List (List Int)} {d:Int} {a to:Geo} {split:Int} {m:Nat} {x:Act} (h:x∈zjN dat d a to split m):∃ r:Nat,r < m∧d < (gAt a to split r).d∧x=.w d (36+r) (atR (gAt a to split r) r (dat r) d):=by
  obtain ⟨r,hr,hx⟩:=List.mem_flatMap.1 h
  have hr:=List.mem_range.1 hr
  unfold rAct at hx
  split at hx
  · cases hx
  · exact ⟨r,hr,by omega,List.mem_singleton.1 hx⟩
theorem zCO {live:List Bool} {d:Int} {a to:Geo} {split:Int} {dat:Nat→List (List Int)} (d0:0≤d) (d1:d < B.n) (hm:mayR a to split=true) (hf:B.failed d=false) (hS:zzc B live d a to split dat):∀ x∈zjN dat d a to split 16++[.f d],x.Ok B:=by
  have his:B.is d=true:=zdw.2 ⟨d0,d1⟩
  intro x hx
  rcases List.mem_append.1 hx with hx | hx
  · obtain ⟨r,hr,hd,rfl⟩:=zv4 hx
    exact ⟨his,hf,by omega,by omega,zvw (zuo hm hr) (hS r hr hd).1 d0 hd⟩
  · rw [List.mem_singleton.1 hx]; exact ⟨his,hf⟩
theorem zCP {dat:Nat→List (List Int)} {d:Int} {a to:Geo} {split:Int}:nW (zjN dat d a to split 16++[.f d])≤16:=by
  have:∀ m,nW (zjN dat d a to split m)≤m:=by
    intro m
    induction m with
    | zero=>simp [nW,zjN]
    | succ m ih=>
      unfold zjN at ih ⊢
      rw [List.range_succ,List.flatMap_append,zqR]
      have:nW (List.flatMap (rAct dat d a to split) [m])≤1:=by
        simp only [List.flatMap_cons,List.flatMap_nil,List.append_nil]
        unfold rAct
        split
        · simp [nW]
        · exact Nat.le_trans (List.length_filter_le _ _) (by simp)
      omega
  rw [zqR]
  have:=this 16
  have:nW [Act.f d]=0:=rfl
  omega
theorem zze {dat:Nat→List (List Int)} {d:Int} {a to:Geo} {split:Int} {e b:Int} (c:Int→Int→List Int):
    curs c (zjN dat d a to split 16++[.f d]) e b=if e=d∧36≤b∧b < 52∧d < (gAt a to split (b - 36).toNat).d then atR (gAt a to split (b - 36).toNat) (b - 36) (dat (b - 36).toNat) d else c e b:=by
  have key:∀ m:Nat,curs c (zjN dat d a to split m) e b=if e=d∧36≤b∧b < 36+m∧d < (gAt a to split (b - 36).toNat).d then atR (gAt a to split (b - 36).toNat) (b - 36) (dat (b - 36).toNat) d else c e b:=by
    intro m
    induction m with
    | zero=>rw [if_neg (by omega)]; rfl
    | succ m ih=>
      unfold zjN at ih ⊢
      rw [List.range_succ,List.flatMap_append,zmf]
      simp only [List.flatMap_cons,List.flatMap_nil,List.append_nil]
      have hra:rAct dat d a to split m=if (gAt a to split m).d≤d then [] else [.w d (36+m) (atR (gAt a to split m) m (dat m) d)]:=rfl
      rw [hra]
      split
      · rename_i hd
        show curs c _ e b=_
        rw [ih]
        by_cases hb:b=36+m
        · rw [if_neg (by omega),if_neg (by rintro ⟨_,_,_,h⟩; rw [show (b - 36).toNat=m by omega] at h; omega)]
        · by_cases hc:e=d∧36≤b∧b < 36+m∧d < (gAt a to split (b - 36).toNat).d
          · rw [if_pos hc,if_pos ⟨hc.1,hc.2.1,by omega,hc.2.2.2⟩]
          · rw [if_neg hc,if_neg (fun q=>hc ⟨q.1,q.2.1,by omega,q.2.2.2⟩)]
      · rename_i hd
        show (if e=d∧b=36+m then _ else curs c _ e b)=_
        rw [ih]
        by_cases hb:e=d∧b=36+m
        · have e1:(b - 36).toNat=m:=by omega
          have e2:b - 36=m:=by omega
          rw [if_pos hb,if_pos ⟨hb.1,by omega,by omega,by rw [e1]; omega⟩,e1,e2]
        · rw [if_neg hb]
          by_cases hc:e=d∧36≤b∧b < 36+m∧d < (gAt a to split (b - 36).toNat).d
          · rw [if_pos hc,if_pos ⟨hc.1,hc.2.1,by omega,hc.2.2.2⟩]
          · rw [if_neg hc,if_neg (fun q=>hc ⟨q.1,q.2.1,by omega,q.2.2.2⟩)]
  rw [zmf]
  show curs c (zjN dat d a to split 16) e b=_
  rw [key]
  rfl
end
section
variable {U V:Tb} {b:Nat} {idx:List Nat} {B:Ben} {n:Nat} {K:Int}
theorem Run.rebuild (h:Run U V b idx B n K) (hK:K≤900000) (tg:Tag) {live:List Bool} {d:Int} {a to:Geo} {split:Int} {dat:Nat→List (List Int)} (d0:0≤d) (d1:d < n) (hl:(live[d.toNat]?).getD false=false) (hm:mayR a to split=true)
    (hf:B.failed d=false) (hS:zzc B live d a to split dat):∃ B1,
    zaO [.h kB b 0,.sl tg (live.map D.bool),.int .i64 d,.agg [.int .i64 a.l,.int .i64 a.d,.int .i64 a.c],.agg [.int .i64 to.l,.int .i64 to.d,.int .i64 to.c],.int .i64 split] [P0 U b idx B,P1 V idx B]=some (Ans.mk (.int .i64 0) [] [P0 U b idx B1,P1 V idx B1])∧
    Run U V b idx B1 n (K+16)∧(∀ e,B1.failed e=B.failed e)∧
    (∀ e x:Int,0≤e→0≤x→x < 52→B1.cur e x=if e=d∧36≤x∧d < (gAt a to split (x - 36).toNat).d then atR (gAt a to split (x - 36).toNat) (x - 36) (dat (x - 36).toNat) d else B.cur e x)∧
    (∀ e:Int,0≤e→B1.nP e=if e=d then 0 else B.nP e):=by
  have hw:=h.w
  have hr:=zpd h.at' (by omega) tg live d a to split
  have d1':d < B.n:=by rw [h.num]; exact d1
  have hok:=zCO d0 d1' hm hf hS
  have hDo:=zpL (zjN dat d a to split 16++[.f d]) h.at'.ok h.down hok (.inl (by rw [h.left]; omega))
  rw [zzd h.at'.ok h.down d0 d1' hl hm hf hS,hDo.run] at hr
  have hn:=zCP (dat:=dat) (d:=d) (a:=a) (to:=to) (split:=split)
  have hnx:=hDo.nx.w
  refine ⟨_,hr,⟨h.at'.nx hDo.nx,hDo.nx.n.trans h.num,hDo.down.trans h.down,by rw [hDo.left,h.left]; rfl,by show (does B (zjN dat d a to split 16++[.f d])).w≤K+16; omega⟩,hDo.failed,fun e x e0 x0 x1=>?_,fun e e0=>?_⟩
  · rw [hDo.cur e x e0 x0 x1,zze]
    by_cases hc:e=d∧36≤x∧d < (gAt a to split (x - 36).toNat).d
    · rw [if_pos hc,if_pos ⟨hc.1,hc.2.1,x1,hc.2.2⟩]
    · rw [if_neg hc,if_neg (fun q=>hc ⟨q.1,q.2.1,q.2.2.2⟩)]
  · by_cases he:e=d
    · rw [if_pos he,zwI]
      have h2:=zEy h.at'.ok (as':=zjN dat d a to split 16) fun x hx=>hok x (List.mem_append_left _ hx)
      show ((does B (zjN dat d a to split 16)).does1 (.f d)).nP e=0
      rw [zyc (h2.2 _ (hok _ (List.mem_append_right _ (List.mem_singleton.2 rfl)))) e0]
      exact if_pos he
    · rw [if_neg he]
      refine zBm e0 _ h.at'.ok hok fun x hx=>?_
      rcases List.mem_append.1 hx with hx | hx
      · obtain ⟨r,_,_,rfl⟩:=zv4 hx; exact fun q=>he q.symm
      · rw [List.mem_singleton.1 hx]; exact fun q=>he q.symm
end
end Wf

namespace Wf
open Go Go.RowKit Go.Proofs
set_option linter.unusedSimpArgs false
set_option linter.unusedVariables false
set_option maxHeartbeats 4000000
theorem znP {ks:List Bool} {k:Nat} (h:k < ks.length):(ks.map D.bool)[k]? =some (.bool ((ks[k]?).getD false)):=by
  rw [List.getElem?_map,List.getElem?_eq_getElem h]; rfl
section
variable {T:Tb} {i:Nat} {s:DS}
end
section
variable {B:Ben}
end
section
variable {T0 T1:Tb} {b:Nat} {idx:List Nat} {B:Ben}
end
end Wf

namespace Wf
open Go Go.RowKit Go.Proofs
set_option linter.unusedSimpArgs false
set_option linter.unusedVariables false
set_option maxHeartbeats 4000000
section
variable {T0 T1:Tb} {b:Nat} {idx:List Nat} {B:Ben}
theorem zCQ (h:At T0 T1 b idx B) (hw:B.w≤1000000):
    za3 [.h kB b 0] [P0 T0 b idx B,P1 T1 idx B]=some (Ans.mk (.h kB (P0 T0 b idx B).length 0) []
      [P0 T0 b idx B++[zoM B.w B.left B.down ((List.range B.ds.length).map fun j=>hD ((P1 T1 idx B).length+j))],P1 T1 idx B++B.ds.map DS.cells]):=by
  rw [zjM]
  unfold zeG
  have hrow:(P0 T0 b idx B)[b]? =some [.int .i64 B.w,.int .i64 B.left,.bool B.down,.sl .own (idx.map hD)]:=h.get0
  have hsm:=h.ok.small
  have hfl:zgK (List.take 3 (List.drop 0 [D.int .i64 B.w,D.int .i64 B.left,D.bool B.down,D.sl .own (idx.map hD)]))=true:=rfl
  have htk:List.take 3 (List.drop 0 [D.int .i64 B.w,D.int .i64 B.left,D.bool B.down,D.sl .own (idx.map hD)])=[D.int .i64 B.w,D.int .i64 B.left,D.bool B.down]:=rfl
  have hgc:∀ {R:Type} (f:LfT [.int .i64,.int .i64,.bool]→Option R),zaw [.int .i64,.int .i64,.bool] [D.int .i64 B.w,D.int .i64 B.left,D.bool B.down] f=f (B.w,B.left,B.down,()):=by
    intro R f; rw [zeJ,zeJ,ztB,zdS]
  rw [zai hrow,zaa (by simp),hfl,zaa rfl,htk,hgc]
  simp (disch:=first | omega | assumption | (simp; done) | fail) only [zcD,zai hrow,zdR,zeV,zbF,zaa,Nat.zero_add,Nat.le_refl,List.length_map,h.len]
  generalize hX:P0 T0 b idx B=X at*
  generalize hY:P1 T1 idx B=Y at*
  let st:Nat→(((Int×Int×Bool×(Tag×List D)×PUnit)×List D)×(Nat×Nat×Nat)×Int×Int×PUnit)×List (List D)×List (List D)×PUnit:=fun k=>
    ((((B.w,B.left,B.down,(Tag.nil,[]),PUnit.unit),(List.range k).map fun j=>hD (Y.length+j)),(b,0,B.ds.length),(B.ds.length:Int),(k:Int),PUnit.unit),X,Y++(B.ds.take k).map DS.cells,PUnit.unit)
  have hst:st 0=((((B.w,B.left,B.down,(Tag.nil,[]),PUnit.unit),[]),(b,0,B.ds.length),(B.ds.length:Int),0,PUnit.unit),X,Y,PUnit.unit):=by simp [st]
  rw [←hst]
  refine zcG st B.ds.length (by omega) ?_ ?_
  · intro again k hk
    dsimp only [st]
    have hd:B.is k=true:=zdw.2 ⟨by omega,by unfold Ben.n; omega⟩
    have hhd:(idx.map hD)[k]? =some (.h kD (ix idx k) 0):=by have:=h.hd hd; simpa using this
    obtain ⟨ho,hpl⟩:=h.ds hw k
    have hg:=h.get1 hd
    rw [hY] at hg
    have hg2:(Y++(B.ds.take k).map DS.cells)[ix idx k]? =some (B.dk k).cells:=by
      rw [List.getElem?_append_left (List.getElem?_eq_some_iff.1 hg).1]; exact hg
    have hcl:=zui hg2 ho hpl
    have hlen:(Y++(B.ds.take k).map DS.cells).length=Y.length+k:=by simp; omega
    have hdk:B.ds[k]? =some (B.dk k):=by unfold Ben.dk; rw [Int.toNat_natCast,List.getElem?_eq_getElem hk]; rfl
    have hsn:(Y++(B.ds.take k).map DS.cells)++[(B.dk k).cells]=Y++(B.ds.take (k+1)).map DS.cells:=by
      rw [List.take_add_one,hdk,List.append_assoc]; simp
    rw [hlen,hsn] at hcl
    have hkk:(k:Int) < (B.ds.length:Int):=by omega
    have hH:(List.map (fun j=>hD (Y.length+j)) (List.range k))++[D.h kD (Y.length+k) 0]=(List.range (k+1)).map fun j=>hD (Y.length+j):=zrr Y.length k
    have i1:(D.h kD (ix idx k) 0).isAgg=false:=rfl
    have i2:(D.h kD (ix idx k) 0).width=1:=rfl
    have i3:(D.h kD (ix idx k) 0).cell=true:=rfl
    have i4:zdG 1 [D.h kD (Y.length+k) 0]=true:=rfl
    have hwr:IntKind.i64.wrap ((k:Int)+1)=((k+1:Nat):Int):=by rw [zam (by omega) (by omega)]; omega
    simp (disch:=first | omega | assumption | (simp; done) | fail) only [zcD,zrx,zai hrow,zdR,zeV,zbF,zaa,Nat.zero_add,Int.toNat_natCast,zai hhd,i1,i2,i3,hcl,zac,zbE,zb5,zyb,i4,List.length_map,List.length_range,hH,zaJ,hwr]
  · intro again
    dsimp only [st]
    have e1:((List.range B.ds.length).map fun j=>hD (Y.length+j))=((List.range B.ds.length).map fun j=>Y.length+j).map hD:=by rw [List.map_map]; rfl
    have f1:=zsW ((List.range B.ds.length).map fun j=>Y.length+j)
    have f2:=zvZ ((List.range B.ds.length).map fun j=>Y.length+j)
    rw [←e1] at f1 f2
    have hnl:¬ ((B.ds.length:Nat):Int) < ((B.ds.length:Nat):Int):=by omega
    simp (disch:=first | omega | assumption | (simp; done) | fail) only [zcD,zry,zaa,f1,f2,zl9,List.take_length]
    simp [zoM,D.own0]
structure Aside (U V:Tb) (b:Nat) (idx:List Nat) (b2:Nat) (idx2:List Nat) (C:Ben):Prop where
  ne:b2≠b
  lt:b2 < U.length
  row:U[b2]? =some (bRow C idx2)
  nd:idx2.Nodup
  len:idx2.length=C.ds.length
  ok:C.Ok
  g:C.g=[]
  dis:∀ i∈idx2,i ∉ idx
  cells:∀ (j i:Nat) (c:List D),idx2[j]? =some i→(C.ds.map DS.cells)[j]? =some c→V[i]? =some c
theorem Aside.vlt {U V:Tb} {b:Nat} {idx:List Nat} {b2:Nat} {idx2:List Nat} {C:Ben} (h:Aside U V b idx b2 idx2 C):∀ i∈idx2,i < V.length:=fun i hi=>by
  obtain ⟨j,hj,rfl⟩:=List.mem_iff_getElem.1 hi
  have h2:=h.cells j idx2[j] ((C.ds.map DS.cells)[j]'(by rw [List.length_map,←h.len]; exact hj)) (List.getElem?_eq_getElem hj) (List.getElem?_eq_getElem _)
  exact (List.getElem?_eq_some_iff.1 h2).1
theorem Aside.at' {U V:Tb} {b:Nat} {idx:List Nat} {b2:Nat} {idx2:List Nat} {C:Ben} (h:Aside U V b idx b2 idx2 C) (B1:Ben):At (P0 U b idx B1) (P1 V idx B1) b2 idx2 C:=by
  have e0:∀ X:Tb,(P0 X b idx B1).length=X.length:=fun X=>zC7
  have e1:∀ X:Tb,(P1 X idx B1).length=X.length+B1.g.length:=fun X=>zqP
  exact ⟨by rw [e0]; exact h.lt,h.nd,fun i hi=>by rw [e1]; have:=h.vlt i hi; omega,h.len,h.ok⟩
theorem Aside.p0 {U V:Tb} {b:Nat} {idx:List Nat} {b2:Nat} {idx2:List Nat} {C:Ben} (h:Aside U V b idx b2 idx2 C) (B1:Ben):P0 (P0 U b idx B1) b2 idx2 C=P0 U b idx B1:=by
  refine zwH ?_
  unfold P0
  rw [List.getElem?_set,if_neg (fun q=>h.ne q.symm)]
  exact h.row
theorem Aside.get {U V:Tb} {b:Nat} {idx:List Nat} {b2:Nat} {idx2:List Nat} {C:Ben} (h:Aside U V b idx b2 idx2 C) (B1:Ben) {i:Nat} (hi:i∈idx2):(P1 V idx B1)[i]? =V[i]? :=by
  unfold P1
  rw [List.getElem?_append_left (by rw [znh]; exact h.vlt i hi),zsD _ _ _ (h.dis i hi)]
theorem Aside.p1 {U V:Tb} {b:Nat} {idx:List Nat} {b2:Nat} {idx2:List Nat} {C:Ben} (h:Aside U V b idx b2 idx2 C) (B1:Ben):P1 (P1 V idx B1) idx2 C=P1 V idx B1:=by
  show putL _ _ (C.ds.map DS.cells)++C.g=_
  rw [h.g,List.append_nil]
  refine zka fun j i c h1 h2=>?_
  rw [h.get B1 (List.mem_of_getElem? h1)]
  exact h.cells j i c h1 h2
def Ben.clean (B:Ben):Ben:={ B with g:=[] }
theorem zpQ (h:B.Ok):B.clean.Ok:=⟨h.w0,h.lf,h.small,h.ds⟩
theorem zBn (T1:Tb) (idx:List Nat) (B:Ben) (h:At T0 T1 b idx B) (X:Tb):putL (P1 T1 idx B++X) idx (B.ds.map DS.cells)=P1 T1 idx B++X:=by
  refine zka fun j i c h1 h2=>?_
  have hj:j < B.ds.length:=by
    have:=(List.getElem?_eq_some_iff.1 h2).1; simpa using this
  have hd:B.is (j:Int)=true:=zdw.2 ⟨by omega,by unfold Ben.n; omega⟩
  have hg:=h.get1 hd
  have hi:=h.ixl hd
  rw [Int.toNat_natCast,h1] at hi
  have e:ix idx (j:Int)=i:=(Option.some.inj hi).symm
  rw [e] at hg
  rw [List.getElem?_append_left (List.getElem?_eq_some_iff.1 hg).1,hg]
  have hdk:=h.dks hd
  rw [Int.toNat_natCast,h2] at hdk
  exact hdk.symm
theorem zED (h:At T0 T1 b idx B) (hw:B.w≤1000000):∃ U V b2 idx2,
    za3 [.h kB b 0] [P0 T0 b idx B,P1 T1 idx B]=some (Ans.mk (.h kB b2 0) [] [P0 U b idx B.clean,P1 V idx B.clean])∧At U V b idx B.clean∧Aside U V b idx b2 idx2 B.clean:=by
  have hl:=h.len
  have hX:(P0 T0 b idx B).length=T0.length:=zC7
  have hbl:b < (P0 T0 b idx B).length:=by rw [hX]; exact h.b
  refine ⟨P0 T0 b idx B++[zoM B.w B.left B.down ((List.range B.ds.length).map fun j=>hD ((P1 T1 idx B).length+j))],P1 T1 idx B++B.ds.map DS.cells,(P0 T0 b idx B).length,(List.range B.ds.length).map fun j=>(P1 T1 idx B).length+j,?_,?_,?_⟩
  · rw [zCQ h hw]
    have e1:P0 (P0 T0 b idx B++[zoM B.w B.left B.down ((List.range B.ds.length).map fun j=>hD ((P1 T1 idx B).length+j))]) b idx B.clean=P0 T0 b idx B++[zoM B.w B.left B.down ((List.range B.ds.length).map fun j=>hD ((P1 T1 idx B).length+j))]:=
      zwH (B:=B.clean) (by rw [List.getElem?_append_left hbl]; exact h.get0)
    have e2:P1 (P1 T1 idx B++B.ds.map DS.cells) idx B.clean=P1 T1 idx B++B.ds.map DS.cells:=by
      show putL _ idx (B.ds.map DS.cells)++[]=_
      rw [List.append_nil]
      exact zBn T1 idx B h _
    rw [e1,e2]
  · refine ⟨by rw [List.length_append]; omega,h.nd,fun i hi=>?_,hl,zpQ h.ok⟩
    rw [List.length_append,zqP]
    have:=h.lt i hi; omega
  · refine ⟨by omega,by rw [List.length_append]; simp,?_,?_,by simp [Ben.clean],zpQ h.ok,rfl,fun i hi hm=>?_,fun j i c h1 h2=>?_⟩
    · rw [List.getElem?_append_right (Nat.le_refl _),Nat.sub_self]
      simp [zoM,bRow,Ben.clean,List.map_map]
    · rw [List.nodup_iff_pairwise_ne,List.pairwise_map]
      exact List.Pairwise.imp (fun hab q=>by omega) List.pairwise_lt_range
    · obtain ⟨j,hj,rfl⟩:=List.mem_map.1 hi
      have:=h.lt _ hm; rw [zqP] at this; omega
    · have hj:j < B.ds.length:=by
        have:=(List.getElem?_eq_some_iff.1 h2).1; simpa [Ben.clean] using this
      rw [List.getElem?_map,List.getElem?_range hj] at h1
      have e:i=(P1 T1 idx B).length+j:=(Option.some.inj h1).symm
      subst e
      rw [List.getElem?_append_right (by omega),show (P1 T1 idx B).length+j - (P1 T1 idx B).length=j by omega]
      exact h2
theorem zBo (h:At T0 T1 b idx B) {d:Int} (hd:B.is d=true) (hf:B.failed d=true):
    zaT [.h kB b 0,.int .i64 d] [P0 T0 b idx B,P1 T1 idx B]=some (Ans.mk (.int .i64 0) []
      [(P0 T0 b idx B).set b [.int .i64 B.w,.int .i64 B.left,.bool B.down,.sl .own ((idx.set d.toNat (P1 T1 idx B).length).map hD)],P1 T1 idx B++[DS.new.cells]]):=by
  rw [ziu]
  unfold zdZ
  obtain ⟨h0,h1⟩:=zdw.1 hd
  have h1':d.toNat < idx.length:=by have:=h.len; unfold Ben.n at h1; omega
  have hrow:(P0 T0 b idx B)[b]? =some [.int .i64 B.w,.int .i64 B.left,.bool B.down,.sl .own (idx.map hD)]:=h.get0
  have hdf:=zxX (h.get1 hd) (zmc h.ok d).1
  rw [zfL hd] at hf
  rw [hf] at hdf
  have i1:(D.h kD (ix idx d) 0).isAgg=false:=rfl
  have i2:(D.h kD (ix idx d) 0).width=1:=rfl
  have i3:(D.h kD (ix idx d) 0).cell=true:=rfl
  have hnew:=zFC (P1 T1 idx B)
  have hst:=ztC (o:=3) (x:=D.sl .own ((idx.map hD).set d.toNat (D.h kD (P1 T1 idx B).length 0))) hrow
  have hms:(idx.map hD).set d.toNat (D.h kD (P1 T1 idx B).length 0)=(idx.set d.toNat (P1 T1 idx B).length).map hD:=by rw [List.map_set]; rfl
  have hH:∀ f:Nat→Option Ans,asH 7649 (D.h kD (P1 T1 idx B).length 0) f=f (P1 T1 idx B).length:=fun f=>zGk ..
  simp (disch:=first | omega | assumption | (simp; done) | fail) only [zcD,b_is h d,hd,zac,zbE,zcr,Bool.not_true,zas,zai hrow,zdR,zeV,zbF,zaa,List.length_map,Nat.zero_add,zai (h.hd hd),i1,i2,i3,hdf,hnew,zb5,zyb,hH,zl9]
  have:setT (P0 T0 b idx B) b 3 (D.sl .own ((idx.map hD).set d.toNat (D.h 7649 (P1 T1 idx B).length 0)))=(P0 T0 b idx B).set b [.int .i64 B.w,.int .i64 B.left,.bool B.down,.sl .own ((idx.set d.toNat (P1 T1 idx B).length).map hD)]:=by
    refine hst.trans ?_
    rw [hms]; rfl
  rw [this]
end
section
variable {U V:Tb} {b:Nat} {idx:List Nat} {B:Ben} {n:Nat} {K:Int}
theorem Run.replace (h:Run U V b idx B n K) {d:Int} (d0:0≤d) (d1:d < n) (hf:B.failed d=true):∃ V' idx' B1,
    zaT [.h kB b 0,.int .i64 d] [P0 U b idx B,P1 V idx B]=some (Ans.mk (.int .i64 0) [] [P0 U b idx' B1,P1 V' idx' B1])∧Run U V' b idx' B1 n K∧B1.w=B.w∧(∀ e:Int,0≤e→B1.dk e=if e=d then .new else B.dk e)∧∀ b2 idx2 C,Aside U V b idx b2 idx2 C→Aside U V' b idx' b2 idx2 C:=by
  have hd:=h.is d0 d1
  have hA:=h.at'
  have hr:=zBo hA hd hf
  have hlen:=hA.len
  have hl:d.toNat < idx.length:=by have h1:=(zdw.1 hd).2; unfold Ben.n at h1; omega
  let idx':=idx.set d.toNat (P1 V idx B).length
  let B1:Ben:=(B.setD d .new).clean
  have hfresh:(P1 V idx B).length ∉ idx:=fun hm=>by have:=hA.lt _ hm; rw [zqP] at this; omega
  have hnd:idx'.Nodup:=by
    rw [List.nodup_iff_pairwise_ne,List.pairwise_iff_getElem]
    intro i j hi hj hij
    have hi':i < idx.length:=by simpa [idx'] using hi
    have hj':j < idx.length:=by simpa [idx'] using hj
    show (idx.set d.toNat (P1 V idx B).length)[i]≠(idx.set d.toNat (P1 V idx B).length)[j]
    rw [List.getElem_set,List.getElem_set]
    by_cases e1:d.toNat=i
    · rw [if_pos e1,if_neg (by omega)]
      intro q; exact hfresh (by rw [q]; exact List.getElem_mem _)
    · rw [if_neg e1]
      by_cases e2:d.toNat=j
      · rw [if_pos e2]
        intro q; exact hfresh (by rw [←q]; exact List.getElem_mem _)
      · rw [if_neg e2]
        exact List.pairwise_iff_getElem.1 (List.nodup_iff_pairwise_ne.1 hA.nd) i j hi' hj' hij
  have hok:B1.Ok:=zpQ (zmd hA.ok zAz hA.ok.w0)
  have hat:At U (P1 V idx B++[DS.new.cells]) b idx' B1:=by
    refine ⟨hA.b,hnd,fun i hi=>?_,?_,hok⟩
    · rw [List.length_append]
      rcases List.mem_or_eq_of_mem_set hi with hi | hi
      · have:=hA.lt i hi; rw [zqP]; omega
      · rw [hi]; simp
    · show (idx.set d.toNat _).length=(B.ds.set d.toNat .new).length
      rw [List.length_set,List.length_set]; exact hlen
  refine ⟨P1 V idx B++[DS.new.cells],idx',B1,?_,⟨hat,?_,h.down,h.left,h.w⟩,rfl,fun e e0=>?_,fun b2 idx2 C hC=>?_⟩
  · rw [hr]
    have e1:P0 U b idx' B1=(P0 U b idx B).set b [.int .i64 B.w,.int .i64 B.left,.bool B.down,.sl .own ((idx.set d.toNat (P1 V idx B).length).map hD)]:=by
      unfold P0
      rw [List.set_set]
      rfl
    have e2:P1 (P1 V idx B++[DS.new.cells]) idx' B1=P1 V idx B++[DS.new.cells]:=by
        show putL _ idx' ((B.ds.set d.toNat .new).map DS.cells)++[]=_
        rw [List.append_nil]
        refine zka fun j i c h1 h2=>?_
        have hj:j < idx.length:=by have:=(List.getElem?_eq_some_iff.1 h1).1; simpa [idx'] using this
        show (P1 V idx B++[DS.new.cells])[i]? =some c
        rw [List.getElem?_map,List.getElem?_set] at h2
        have h1:(idx.set d.toNat (P1 V idx B).length)[j]? =some i:=h1
        rw [List.getElem?_set] at h1
        by_cases e:d.toNat=j
        · rw [if_pos e,if_pos hl] at h1
          rw [if_pos e,if_pos (by omega)] at h2
          cases h1; cases h2
          rw [List.getElem?_append_right (Nat.le_refl _),Nat.sub_self]; rfl
        · rw [if_neg e] at h1 h2
          have hdj:B.is (j:Int)=true:=zdw.2 ⟨by omega,by unfold Ben.n; omega⟩
          have hg:=hA.get1 hdj
          have hi:=hA.ixl hdj
          rw [Int.toNat_natCast,h1] at hi
          rw [←Option.some.inj hi] at hg
          rw [List.getElem?_append_left (List.getElem?_eq_some_iff.1 hg).1,hg]
          have hdk:=hA.dks hdj
          rw [Int.toNat_natCast,List.getElem?_map] at hdk
          rw [←hdk]; exact h2
    rw [e1,e2]
  · show (B.setD d .new).n=_
    rw [zC6]; exact h.num
  · show (B.setD d .new).dk e=_
    exact zfp hd e0 _
  · refine ⟨hC.ne,hC.lt,hC.row,hC.nd,hC.len,hC.ok,hC.g,fun i hi hm=>?_,fun j i c h1 h2=>?_⟩
    · rcases List.mem_or_eq_of_mem_set hm with hm | hm
      · exact hC.dis i hi hm
      · have:=hC.vlt i hi
        rw [hm,zqP] at this; omega
    · have hi:=List.mem_of_getElem? h1
      have hlt:=hC.vlt i hi
      rw [List.getElem?_append_left (by rw [zqP]; omega),hC.get B hi]
      exact hC.cells j i c h1 h2
theorem Run.clone (h:Run U V b idx B n K) (hK:K≤900000):∃ U' V' b2 idx2,
    za3 [.h kB b 0] [P0 U b idx B,P1 V idx B]=some (Ans.mk (.h kB b2 0) [] [P0 U' b idx B.clean,P1 V' idx B.clean])∧Run U' V' b idx B.clean n K∧Aside U' V' b idx b2 idx2 B.clean:=by
  obtain ⟨U',V',b2,idx2,h1,h2,h3⟩:=zED h.at' (by have:=h.w; omega)
  exact ⟨U',V',b2,idx2,h1,⟨h2,h.num,h.down,h.left,h.w⟩,h3⟩
theorem Aside.read {b2:Nat} {idx2:List Nat} {C:Ben} (h:Aside U V b idx b2 idx2 C) (hw:C.w≤1000000) (B1:Ben) (d a:Int):
    zaB [.h kB b2 0,.int .i64 d,.int .i64 a] [P0 U b idx B1,P1 V idx B1]=some (Ans.mk (.tup [.sl .own (uL (C.read d a).1),.int .i64 (C.read d a).2]) [] []):=by
  have:=zxZ (h.at' B1) hw d a
  rw [h.p0,h.p1] at this
  exact this
end
end Wf

namespace Wf
open Go Go.RowKit Go.Proofs
set_option linter.unusedSimpArgs false
set_option linter.unusedVariables false
set_option maxHeartbeats 4000000
section
variable {T0 T1:Tb}
theorem both {a to:Geo} {split:Int} (hm:mayR a to split=true) {n:Nat} (n0:1≤n) (n8:n≤8) (tg:Tag) (l:List Int):
    zba [.agg [.int .i64 a.l,.int .i64 a.d,.int .i64 a.c],.agg [.int .i64 to.l,.int .i64 to.d,.int .i64 to.c],.int .i64 split,.int .i64 n,.sl tg (intL l)] [T0,T1]=
      some (Ans.mk (.h kB T0.length 0) [] [P0 (nT0 T0 T1 n) T0.length (nIdx T1 n) (zix (gAt a to split) l n 16),P1 (nT1 T1 n) (nIdx T1 n) (zix (gAt a to split) l n 16)]):=by
  rw [zkL,zqE]
  unfold ze9
  have hat0:=zBc T0 T1 n8
  have hnew:=zFN T0 T1 n0 n8
  generalize nT0 T0 T1 n=U0 at*
  generalize nT1 T1 n=U1 at*
  generalize nIdx T1 n=idx at*
  have hkk:=zyd hm
  have hF:=fun R hR=>zkR (gs:=gAt a to split) (l:=l) n8 hkk R hR
  have hat:∀ B:Ben,B.Ok→B.n=n→At U0 U1 T0.length idx B:=fun B hB hn=>⟨hat0.b,hat0.nd,hat0.lt,by rw [hat0.len]; unfold Ben.n at hn; simp [Ben.new]; omega,hB⟩
  simp (disch:=first | omega | assumption | (simp; done) | fail) only [zcD,hnew,zac,zbE,zb5,zh6,zro,zbe,zxJ,zwu,zas,show zgL (D.h kB T0.length 0)=true from rfl,zaa]
  let st:Nat→(Int×Int×List D×(Int×Int×Int×PUnit)×(Int×Int×Int×PUnit)×D×Int×PUnit)×List (List D)×List (List D)×PUnit:=fun r=>((split,(n:Int),intL l,(a.l,a.d,a.c,PUnit.unit),(to.l,to.d,to.c,PUnit.unit),.h kB T0.length 0,(r:Int),PUnit.unit),P0 U0 T0.length idx (zix (gAt a to split) l n r),P1 U1 idx (zix (gAt a to split) l n r),PUnit.unit)
  show zcb _ (st 0)=_
  refine zcG st 16 (by omega) ?_ ?_
  · intro again r hr
    dsimp only [st]
    have hk:=hkk r
    have hw:=zdb hk
    have hdd:=ok_d hk
    have hr16:(r:Int) < 16:=by omega
    rw [zrx hr16]
    refine zEx (fun x=>x=(((split,(n:Int),intL l,(a.l,a.d,a.c,PUnit.unit),(to.l,to.d,to.c,PUnit.unit),.h kB T0.length 0,(r:Int),((gAt a to split r).l,(gAt a to split r).d,(gAt a to split r).c,PUnit.unit),PUnit.unit),P0 U0 T0.length idx (zix (gAt a to split) l n r),P1 U1 idx (zix (gAt a to split) l n r),PUnit.unit))) ?_ ?_
    rotate_left
    · intro j hj
      by_cases hs:(r:Int) < split
      · rw [zrx hs]
        refine hj _ ?_
        have:gAt a to split r=to:=by unfold gAt; rw [if_pos hs]
        rw [this]
      · rw [zry hs]
        refine hj _ ?_
        have:gAt a to split r=a:=by unfold gAt; rw [if_neg hs]
        rw [this]
    rintro _ rfl
    dsimp only
    have hfine:zcH (gAt a to split r) (r:Int)=true:=zbO.2 ⟨hk,by omega,by omega⟩
    have hm1:0≤min (r:Int) (l.length:Int):=by omega
    have hm2:min (r:Int) (l.length:Int)≤(l.length:Int):=by omega
    have hsp:=fun tg=>zvU tg (l.drop (min r l.length)) (n:=(gAt a to split r).width.toNat) (by omega)
    rw [show (((gAt a to split r).width.toNat:Nat):Int)=(gAt a to split r).width by omega] at hsp
    have hc:=zBe l (r:Int) (by omega)
    rw [Int.toNat_natCast] at hc
    have hfill:=zCC (gAt a to split r) (r:Int) .lent (ps:=fP (rowL (gAt a to split r) l r)) (by simp [rowL]; omega) (by intro x hx; obtain ⟨y,hy,rfl⟩:=List.mem_map.1 hx; exact zx4 _ _ y hy)
    rw [zsQ,zqU hfine (zpO hk l r)] at hfill
    have hFr:=hF r (by omega)
    have hdm:=fun k hk'=>zoN (gs:=gAt a to split) hFr hr hk k hk'
    have hnx:zix (gAt a to split) l n (r+1)=(zix (gAt a to split) l n r).dmgs (36+(r:Int)) (zcP (gAt a to split r) r (rowL (gAt a to split r) l r)) (min (gAt a to split r).d.toNat n):=rfl
    rw [hnx]
    generalize zix (gAt a to split) l n r=B at*
    generalize gAt a to split r=g at*
    have hrl:=zlb g (r:Int) (rowL g l r)
    unfold rowL at hfill
    simp (disch:=first | omega | assumption | (simp; done) | fail) only [zcD,zaJ,zgp,zaa,zy6,zoK,zac,zbe,hc,hsp,zbF,zdd,Nat.zero_add,Nat.le_refl,hfill,solD,zh6,zro,zcr]
    have hxs:secL (l.drop (min r l.length)) g.width.toNat=rowL g l r:=rfl
    rw [hxs]
    have h0:∀ k,k≤min g.d.toNat n→P0 U0 T0.length idx (B.dmgs (36+(r:Int)) (zcP g r (rowL g l r)) k)=P0 U0 T0.length idx B:=by
      intro k hk'
      induction k with
      | zero=>rfl
      | succ k ih=>
        rw [←ih (by omega)]
        show P0 U0 T0.length idx ((B.dmgs (36+(r:Int)) (zcP g r (rowL g l r)) k).damage _ _ _).2=_
        unfold Ben.damage
        split<;>rfl
    let s2:Nat→(Int×Int×List D×(Int×Int×Int×PUnit)×(Int×Int×Int×PUnit)×D×Int×List D×Bool×Int×PUnit)×List (List D)×List (List D)×PUnit:=fun k=>
      ((split,(n:Int),intL l,(a.l,a.d,a.c,PUnit.unit),(to.l,to.d,to.c,PUnit.unit),.h kB T0.length 0,(r:Int),pL (fP (zcP g r (rowL g l r))),true,(k:Int),PUnit.unit),P0 U0 T0.length idx B,P1 U1 idx (B.dmgs (36+(r:Int)) (zcP g r (rowL g l r)) k),PUnit.unit)
    show zcb _ (s2 0)=_
    refine zcG s2 (min g.d.toNat n) (by omega) ?_ ?_
    · intro again2 k hk'
      dsimp only [s2]
      obtain ⟨i1,i2,i3,i4,i5⟩:=hdm k (by omega)
      have hA:=hat _ i1.ok i2
      have hg:(pL (fP (zcP g r (rowL g l r))))[k]? =some (.sl .fresh (uL (atR g r (rowL g l r) k))):=zcJ (zvR (zh9 (by omega)))
      have hb:=zCs hA (by omega) (k:Int) (a:=36+(r:Int)) (by intro w hw; rw [(i1.dk _).2] at hw; cases hw) .fresh (atR g r (rowL g l r) k)
      rw [h0 k (by omega)] at hb
      have hgd:(zcP g r (rowL g l r)).getD k []=atR g r (rowL g l r) k:=zrs (by omega)
      have h1:(k:Int) < ((g.d.toNat:Nat):Int):=by omega
      have h2:(k:Int) < (n:Int):=by omega
      have h3:k < g.d.toNat:=by omega
      simp (disch:=first | omega | assumption | (simp; done) | fail) [hrl,h1,h2,h3,zai hg,hb,zam]
      rw [←hgd]; rfl
    · intro again2
      dsimp only [s2]
      rw [h0 _ (Nat.le_refl _)]
      by_cases h1:min g.d.toNat n < g.d.toNat
      · have h2:¬ ((min g.d.toNat n:Nat):Int) < (n:Int):=by omega
        have h1':((min g.d.toNat n:Nat):Int) < ((g.d.toNat:Nat):Int):=by omega
        simp (disch:=first | omega | assumption | (simp; done) | fail) only [zcD,za1,hrl,zvP,zA3,zaa,Nat.zero_add,Nat.le_refl,zrx,zry,zvl]
        rfl
      · have h1':¬ ((min g.d.toNat n:Nat):Int) < ((g.d.toNat:Nat):Int):=by omega
        simp (disch:=first | omega | assumption | (simp; done) | fail) only [zcD,za1,hrl,zvP,zA3,zaa,Nat.zero_add,Nat.le_refl,zry,zvl]
        rfl
  · intro again
    dsimp only [st]
    simp (disch:=first | omega | assumption | (simp; done) | fail) only [zcD,zry,show (D.h kB T0.length 0).free=true from rfl,zaa]
end
theorem zCR (T0 T1:Tb) {a to:Geo} {split:Int} (hm:mayR a to split=true) {n:Nat} (n0:1≤n) (n8:n≤8) (tg:Tag) (l:List Int):∃ U V idx B,
    zba [.agg [.int .i64 a.l,.int .i64 a.d,.int .i64 a.c],.agg [.int .i64 to.l,.int .i64 to.d,.int .i64 to.c],.int .i64 split,.int .i64 n,.sl tg (intL l)] [T0,T1]=some (Ans.mk (.h kB T0.length 0) [] [P0 U T0.length idx B,P1 V idx B])∧
    Run U V T0.length idx B n 0∧Still B∧B.w=0∧(∀ (d:Int) (r:Nat),0≤d→d < n→r < 16→d < (gAt a to split r).d→B.cur d (36+r)=atR (gAt a to split r) r (rowL (gAt a to split r) l r) d)∧
    (∀ d x:Int,0≤d→0≤x→x < 52→(x < 36∨(gAt a to split (x - 36).toNat).d≤d)→B.cur d x=zfX):=by
  have hF:=zkR (gs:=gAt a to split) (l:=l) n8 (zyd hm) 16 (by omega)
  have hat0:=zBc T0 T1 n8
  refine ⟨_,_,_,_,both hm n0 n8 tg l,⟨⟨hat0.b,hat0.nd,hat0.lt,?_,hF.still.ok⟩,hF.num,hF.still.down,hF.left,by rw [hF.w]; omega⟩,hF.still,hF.w,fun d r d0 d1 r1 hd=>?_,fun d x d0 x0 x1 hx=>?_⟩
  · have:=hF.num; unfold Ben.n at this; rw [hat0.len]; simp [Ben.new]; omega
  · have e:((36:Int)+r - 36).toNat=r:=by omega
    have e2:(36:Int)+r - 36=r:=by omega
    rw [hF.cur d (36+r) d0 (by omega) (by omega),e,e2,if_pos ⟨by omega,by omega,hd,d1⟩]
  · rw [hF.cur d x d0 x0 x1,if_neg (fun q=>by omega)]
end Wf

namespace Wf
open Go Go.RowKit Go.Proofs
set_option linter.unusedSimpArgs false
set_option linter.unusedVariables false
set_option maxHeartbeats 4000000
theorem znQ (l:List Bool) (i:Nat) (b:Bool):(l.map D.bool).set i (.bool b)=(l.set i b).map D.bool:=by rw [List.map_set]
theorem zEE {n:Nat} {d e:Int} (d0:0≤d) (e0:0≤e):(((List.replicate n true).set d.toNat false)[e.toNat]?).getD false=(decide (e < n) && !decide (e=d)):=by
  rw [List.getElem?_set]
  by_cases h:d.toNat=e.toNat
  · rw [if_pos h]
    have:e=d:=by omega
    simp [this]
    split<;>rfl
  · rw [if_neg h,List.getElem?_replicate]
    have h2:¬ e=d:=by omega
    by_cases h3:e < n
    · rw [if_pos (by omega)]; simp [h2,h3]
    · rw [if_neg (by omega)]; simp [h3]
theorem zFW {B:Ben} {n:Nat} (hn:B.n=n) {d e:Int} (d0:0≤d) (e0:0≤e):B.up ((List.replicate n true).set d.toNat false) e=(decide (e < n) && !decide (e=d) && !B.failed e):=by
  unfold Ben.up
  rw [zEE d0 e0,hn]
  cases decide (e < (n:Int))<;>simp
theorem zyf {B:Ben} {live:List Bool} {g:Geo} {d:Int} (hg:0≤g.d) (h:∀ e:Int,0≤e→e < g.d→e≠d→B.up live e=true):B.lostN live g≤1:=by
  unfold Ben.lostN
  refine zBf (a:=d.toNat) fun i hi hp=>?_
  by_cases he:(i:Int)=d
  · omega
  · rw [h i (by omega) (by omega) he] at hp; cases hp
section
variable {U V:Tb} {b:Nat} {idx:List Nat} {B:Ben} {n:Nat} {K:Int}
theorem Run.rebuild_bad (h:Run U V b idx B n K) (hK:K≤900000) (tg:Tag) {live:List Bool} {d:Int} {a to:Geo} {split:Int} (hb:d < 0∨n≤d∨(live[d.toNat]?).getD false=true∨mayR a to split=false):
    zaO [.h kB b 0,.sl tg (live.map D.bool),.int .i64 d,.agg [.int .i64 a.l,.int .i64 a.d,.int .i64 a.c],.agg [.int .i64 to.l,.int .i64 to.d,.int .i64 to.c],.int .i64 split] [P0 U b idx B,P1 V idx B]=some (Ans.mk (.int .i64 1) [] [P0 U b idx B,P1 V idx B]):=by
  rw [zpd h.at' (by have:=h.w; omega) tg live d a to split]
  unfold Ben.rDisk
  rw [if_pos (by rw [h.num]; exact hb)]
theorem zzf {live:List Bool} {d:Int} {a to:Geo} {split:Int} (hm:mayR a to split=true) (hz:∀ e x:Int,0≤e→36≤x→x < 52→B.cur e x=zfX)
    (hl:∀ r:Nat,r < 16→B.lostN live (gAt a to split r)≤1):zzc B live d a to split fun r=>zmK (gAt a to split r):=by
  intro r hr hd
  have hk:=zyd hm r
  have hll:=zeK.1 hk
  have:=hl r hr
  exact ⟨zCJ hk,by omega,fun e e0 e1 _=>by rw [hz e _ e0 (by omega) (by omega),zEs (zuo hm hr) e0 e1]⟩
end
theorem zEF:zbj []=some (.bool true):=by
  have e:=zjB
  rw [e,zaa (by rfl)]
  unfold zeD
  obtain ⟨U,V,idx,hnew,hB,hS⟩:=zEC [] [] (n:=3) (by omega) (by omega)
  simp only [List.length_nil] at hnew hB
  have hm:mayR ⟨5,3,1⟩ ⟨0,0,0⟩ 0=true:=by decide
  have h1:=hB.rebuild_bad (by omega) .full (live:=[true,true,true]) (d:=1) (a:=⟨5,3,1⟩) (to:=⟨0,0,0⟩) (split:=0) (.inr (.inr (.inl (by decide))))
  have hup:∀ e:Int,0≤e→e < 3→e≠1→(Ben.new 3).up [true,false,true] e=true:=by
    intro e e0 e1 e2
    have:=zFW (B:=Ben.new 3) (n:=3) hB.num (d:=1) (e:=e) (by omega) e0
    refine this.trans ?_
    rw [hS.failed]; simp; omega
  obtain ⟨B1,h2,_⟩:=hB.rebuild (by omega) .full (live:=[true,false,true]) (d:=1) (a:=⟨5,3,1⟩) (to:=⟨0,0,0⟩) (split:=0) (by omega) (by omega) (by decide) hm (hS.failed 1) (zzf hm (fun e x e0 x0 x1=>zw3 3 e (by omega) x1) fun r hr=>by
    have:gAt ⟨5,3,1⟩ ⟨0,0,0⟩ 0 r=⟨5,3,1⟩:=by unfold gAt; rw [if_neg (by omega)]
    rw [this]
    exact zyf (d:=1) (by decide) hup)
  have hnew':zbq [.int .i64 3] [[],[]]=some (Ans.mk (.tup [.h kB 0 0,.int .i64 0]) [] [P0 U 0 idx (Ben.new 3),P1 V idx (Ben.new 3)]):=hnew
  have h1':zaO [.h kB 0 0,.sl .full [.bool true,.bool true,.bool true],.int .i64 1,.agg [.int .i64 5,.int .i64 3,.int .i64 1],.agg [.int .i64 0,.int .i64 0,.int .i64 0],.int .i64 0] [P0 U 0 idx (Ben.new 3),P1 V idx (Ben.new 3)]=some (Ans.mk (.int .i64 1) [] [P0 U 0 idx (Ben.new 3),P1 V idx (Ben.new 3)]):=h1
  have h2':zaO [.h kB 0 0,.sl .full [.bool true,.bool false,.bool true],.int .i64 1,.agg [.int .i64 5,.int .i64 3,.int .i64 1],.agg [.int .i64 0,.int .i64 0,.int .i64 0],.int .i64 0] [P0 U 0 idx (Ben.new 3),P1 V idx (Ben.new 3)]=some (Ans.mk (.int .i64 0) [] [P0 U 0 idx B1,P1 V idx B1]):=h2
  simp [hnew',h1',h2',zgL]
end Wf

namespace Wf
open Go Go.RowKit Go.Proofs
set_option linter.unusedSimpArgs false
set_option linter.unusedVariables false
set_option maxHeartbeats 4000000
section
variable {U V:Tb} {b:Nat} {idx:List Nat} {B:Ben} {n:Nat} {K:Int}
theorem zyg {d a:Int} (hd:B.is d=true) (hdn:B.down=false) (hf:B.failed d=false) (a0:0≤a) (a1:a < 52):B.read d a=(B.cur d a,0):=by
  unfold Ben.read
  rw [may0.2 ⟨hd,hdn⟩,if_neg (by simp)]
  unfold DS.read
  rw [zfL hd] at hf
  rw [zoa.2 ⟨hf,a0,a1⟩,if_neg (by simp)]
  rfl
theorem Run.bread (h:Run U V b idx B n K) (hK:K≤900000) {d a:Int} (d0:0≤d) (d1:d < n) (hf:B.failed d=false) (a0:0≤a) (a1:a < 52):
    zaB [.h kB b 0,.int .i64 d,.int .i64 a] [P0 U b idx B,P1 V idx B]=some (Ans.mk (.tup [.sl .own (uL (B.cur d a)),.int .i64 0]) [] []):=by
  have:=zxZ h.at' (by have:=h.w; omega) d a
  rw [zyg (h.is d0 d1) h.down hf a0 a1] at this
  exact this
end
end Wf

namespace Wf
open Go Go.RowKit Go.Proofs
set_option linter.unusedSimpArgs false
set_option linter.unusedVariables false
set_option maxHeartbeats 4000000
section
variable {U V:Tb} {b:Nat} {idx:List Nat} {B:Ben} {n:Nat} {K:Int}
theorem Run.swap (h:Run U V b idx B n K) {d:Int} (d0:0≤d) (d1:d < n):∃ B1 V' idx' B2,
    za9 [.h kB b 0,.int .i64 d] [P0 U b idx B,P1 V idx B]=some (Ans.mk (.int .i64 0) [] [P1 V idx B1])∧
    zaT [.h kB b 0,.int .i64 d] [P0 U b idx B,P1 V idx B1]=some (Ans.mk (.int .i64 0) [] [P0 U b idx' B2,P1 V' idx' B2])∧
    Run U V' b idx' B2 n K∧B2.w=B.w∧(∀ e:Int,0≤e→B2.dk e=if e=d then .new else B.dk e)∧∀ b2 idx2 C,Aside U V b idx b2 idx2 C→Aside U V' b idx' b2 idx2 C:=by
  obtain ⟨B1,e1,p1,hB1,f1,b1e,c1⟩:=h.fail d0 d1
  obtain ⟨V2,idx2,B2,e2,hB2,hw2,k2,a2⟩:=hB1.replace d0 d1 (by rw [f1 d d0 d1]; simp)
  rw [←p1] at e2
  refine ⟨B1,V2,idx2,B2,e1,e2,hB2,?_,fun e e0=>?_,a2⟩
  · rw [hw2,b1e]
    unfold Ben.fail
    rw [if_pos (h.is d0 d1)]; rfl
  · rw [k2 e e0]
    by_cases he:e=d
    · rw [if_pos he,if_pos he]
    · rw [if_neg he,if_neg he,b1e]
      unfold Ben.fail
      rw [if_pos (h.is d0 d1),zfp (h.is d0 d1) e0,if_neg he]
theorem zzg {a:Int} (a0:0≤a) (a1:a < 52):DS.new.sec a=zfX:=by
  have:=zw3 1 0 a0 a1
  unfold Ben.cur at this
  rw [zDe] at this
  exact this
theorem zsY {B2:Ben} {n:Nat} (hn:B.n=n) (hn2:B2.n=n) {d:Int} (hk:∀ e:Int,0≤e→B2.dk e=if e=d then .new else B.dk e):
    (∀ e:Int,0≤e→e < n→B2.failed e=(!decide (e=d) && B.failed e))∧(∀ e a:Int,0≤e→0≤a→a < 52→B2.cur e a=if e=d then zfX else B.cur e a)∧∀ e:Int,0≤e→B2.nP e=if e=d then 0 else B.nP e:=by
  refine ⟨fun e e0 e1=>?_,fun e a e0 a0 a1=>?_,fun e e0=>?_⟩
  · rw [zfL (zdw.2 ⟨e0,by rw [hn2]; exact e1⟩),zfL (zdw.2 ⟨e0,by rw [hn]; exact e1⟩),hk e e0]
    by_cases he:e=d
    · rw [if_pos he]; simp [he]; rfl
    · rw [if_neg he]; simp [he]
  · unfold Ben.cur
    rw [hk e e0]
    split
    · exact zzg a0 a1
    · rfl
  · unfold Ben.nP
    rw [hk e e0]
    split<;>rfl
theorem zw7 (h:Still B):Still B.clean:=⟨zpQ h.ok,h.down,h.ds⟩
theorem zzh {n:Nat} (h:Still B) (hn:B.n=n) {d a:Int} (d0:0≤d) (d1:d < n) (a0:0≤a) (a1:a < 52):B.read d a=(B.cur d a,0):=
  zyg (zdw.2 ⟨d0,by rw [hn]; exact d1⟩) h.down (h.failed d) a0 a1
end
end Wf

namespace Wf
open Go Go.RowKit Go.Proofs
set_option linter.unusedSimpArgs false
set_option linter.unusedVariables false
set_option maxHeartbeats 4000000
section
variable {B:Ben}
end
section
variable {T0 T1:Tb} {b:Nat} {idx:List Nat} {B:Ben}
end
end Wf

namespace Wf
open Go Go.RowKit Go.Proofs
set_option linter.unusedSimpArgs false
set_option linter.unusedVariables false
set_option maxHeartbeats 4000000
@[simp] theorem zBr {R:Type} (a b c:D) (f:LfT [.any,.any,.any]→Option R):zaw [.any,.any,.any] [a,b,c] f=f (a,b,c,()):=by rw [zc3,zc3,zc3,zdS]
section
variable {B:Ben} {live:List Bool}
end
end Wf

namespace Wf
open Go Go.RowKit Go.Proofs
set_option linter.unusedVariables false
set_option maxRecDepth 100000
def zea:Ann:={ loops:=[(2,[.dead,.dead,.val (.cell (.int .i64)),.val (.cell (.int .i64)),.dead,.dead,.dead,.dead,.dead,.box true [(.int .i64),(.int .i64),(.int .i64)],.ptr 3840,.ptr 3840,.own 1,.dead,.dead,.dead,.dead,.dead,.dead,.dead,.dead,.dead,.dead,.dead,.dead,.dead,.dead,.dead,.dead,.dead,.dead,.dead,.dead,.dead,.dead,.dead,.dead,.dead,.dead,.dead,.dead,.dead,.dead,.dead,.dead,.dead,.dead,.dead,.dead,.dead,.dead,.dead,.dead,.dead,.dead,.dead,.dead,.dead,.dead,.dead,.dead,.dead,.val (.cell .sl),.val (.cell (.int .i64)),.val (.cell (.int .i64))]),(4,[.dead,.dead,.dead,.dead,.dead,.dead,.dead,.dead,.dead,.box true [(.int .i64),(.int .i64),(.int .i64)],.ptr 3840,.ptr 3840,.own 1,.dead,.dead,.dead,.dead,.dead,.dead,.dead,.dead,.dead,.dead,.dead,.dead,.dead,.dead,.dead,.dead,.dead,.dead,.dead,.dead,.dead,.dead,.dead,.dead,.dead,.dead,.dead,.dead,.dead,.dead,.dead,.dead,.dead,.dead,.dead,.dead,.dead,.dead,.dead,.dead,.dead,.dead,.dead,.dead,.dead,.dead,.dead,.dead,.dead,.dead,.dead,.dead,.dead,.dead,.dead,.dead,.dead,.dead,.dead,.dead,.dead,.dead,.dead,.dead,.dead,.dead,.dead,.val (.cell .sl),.val (.cell (.int .i64)),.val (.cell (.int .i64))]),(7,[.dead,.dead,.dead,.dead,.dead,.dead,.dead,.dead,.dead,.box true [(.int .i64),(.int .i64),(.int .i64)],.ptr 3840,.ptr 3840,.dead,.dead,.dead,.dead,.dead,.val (.cell (.int .i64))]),(9,[.dead,.dead,.dead,.dead,.dead,.dead,.dead,.dead,.dead,.box true [(.int .i64),(.int .i64),(.int .i64)],.ptr 3840,.ptr 3840,.dead,.dead,.dead,.dead,.dead,.val (.cell (.int .i64)),.val (.cell (.int .i64))])],ks:=[(3840,true),(7649,true)] }
noncomputable def zdh:List D→Option D:=denT Try.prog (zax [(ID.wattleplay_Good,(.pure [0] zbz)),(ID.wattlelaw16_Both,(.st [] [0] [(3840,true),(7649,true)] zba)),(ID.bench_Bench_Clone,(.st [] [0] [(3840,true),(7649,true)] za3)),(ID.wattlekeep_Within,(.pure [0] zab)),(ID.wattleplay_Live,(.pure [1] zbu)),(ID.bench_Bench_Fail,(.st [] [0] [(3840,false),(7649,true)] za9)),(ID.bench_Bench_Replace,(.st [] [0] [(3840,true),(7649,true)] zaT)),(ID.rebuild_Disk,(.st [] [0] [(3840,true),(7649,true)] zaO)),(ID.bench_Bench_Read,(.st [] [1,0] [(3840,false),(7649,false)] zaB)),(ID.wattlekeep_Same_byte,(.pure [0] zaZ)),(ID.wattleref01_Check,(.pure [0] zad)),(ID.wattlelaw16_wakes,(.pure [0] zbj))]) zea [0] ID.wattlelaw16_RebuildTwo
theorem sound_wattlelaw16_RebuildTwo:za7 Try.prog ID.wattlelaw16_RebuildTwo (.pure [0] zdh):=zsx (zaD [zlG,zkK,zjL,zcT,zlk,zkz,zit,zil,zfQ,zhJ,zco,zjA]) zbD ⟨Try.f9,by kernel_rfl,by kernel_rfl,by kernel_rfl⟩
noncomputable def zdi (zbz:List D→Option D) (zba:List D→List Tb→Option Ans) (za3:List D→List Tb→Option Ans) (zab:List D→Option D) (zbu:List D→Option D) (za9:List D→List Tb→Option Ans) (zaT:List D→List Tb→Option Ans) (zaO:List D→List Tb→Option Ans) (zaB:List D→List Tb→Option Ans) (zaZ:List D→Option D) (zad:List D→Option D) (zbj:List D→Option D) (a0:Int) (a1:List D) (a2:Int) (a3:Int):Option D:=
  zar (zbz [D.int IntKind.i64 a0]) fun r1=>
  asAgg r1 fun cs2=>
  zaw ([Lf.int IntKind.i64,Lf.int IntKind.i64,Lf.int IntKind.i64]) cs2 fun c3=>
  letN (max c3.snd.fst (4:Int)) fun n4=>
  zar (zba [D.agg [D.int IntKind.i64 (6:Int),D.int IntKind.i64 n4,D.int IntKind.i64 c3.snd.snd.fst],D.agg [D.int IntKind.i64 (6:Int),D.int IntKind.i64 n4,D.int IntKind.i64 c3.snd.snd.fst],D.int IntKind.i64 (0:Int),D.int IntKind.i64 n4,D.sl Tag.lent a1] [[],[]]) fun r5=>
  nilK r5.outs <|
  zcl r5.tbs fun c6 q7=>
  zcl q7 fun c8 q9=>
  nilK q9 <|
  sif (zgL r5.r=true) <|
  zm2 r5.r fun b10=>
  brK b10
    (some (D.bool false))
    (zar (za3 [r5.r] [c6,c8]) fun r11=>
    nilK r11.outs <|
    zcl r11.tbs fun c12 q13=>
    zcl q13 fun c14 q15=>
    nilK q15 <|
    sif (zgL r11.r=true) <|
    zm2 r11.r fun b16=>
    brK b16
      (some (D.bool false))
      (zar (zab [D.int IntKind.i64 a2,D.int IntKind.i64 n4]) fun r17=>
      asI IntKind.i64 r17 fun i18=>
      letN (IntKind.wrap IntKind.i64 (i18+(1:Int))) fun n19=>
      letN (IntKind.wrap IntKind.i64 (n4 - (1:Int))) fun n20=>
      zar (zab [D.int IntKind.i64 a3,D.int IntKind.i64 n20]) fun r21=>
      asI IntKind.i64 r21 fun i22=>
      letN (IntKind.wrap IntKind.i64 (n19+i22)) fun n23=>
      sif (n4≠(0:Int)) <|
      letN (Int.tmod n23 n4) fun n24=>
      zar (zbu [D.int IntKind.i64 (0:Int),D.int IntKind.i64 n4]) fun r25=>
      za8 r25 fun l26=>
      sif (List.length l26=List.length l26) <|
      zcb (α:=(Int×Int×(Int×Int×Int×PUnit)×D×D×List D×(Tag×List D)×Int×Int×PUnit)×List (List D)×List (List D)×PUnit) (fun again27 ((i28,(i29,((i30,(i31,(i32,_))),(x33,(x34,(l35,((t36,l37),(i38,(i39,_))))))))),(U40,(U41,_)))=>
        brK (decide (i39 < i38))
          (sif ((0:Int)≤i39) <|
          getK l37 (Int.toNat i39) fun d42=>
          asI IntKind.i64 d42 fun i43=>
          zar (za9 [x33,D.int IntKind.i64 i43] [U40,U41]) fun r44=>
          nilK r44.outs <|
          zcl r44.tbs fun c45 q46=>
          nilK q46 <|
          asI IntKind.i64 r44.r fun i47=>
          zar (zaT [x33,D.int IntKind.i64 i43] [U40,c45]) fun r48=>
          nilK r48.outs <|
          zcl r48.tbs fun c49 q50=>
          zcl q50 fun c51 q52=>
          nilK q52 <|
          asI IntKind.i64 r48.r fun i53=>
          sif ((0:Int)≤i43) <|
          sif (Int.toNat i43 < List.length l35) <|
          getK l35 ((0:Nat)+Int.toNat i43) fun d54=>
          sif (D.isAgg d54=false) <|
          letN (IntKind.wrap IntKind.i64 (i39+(1:Int))) fun n55=>
          sif (List.length l35=List.length (List.set l35 ((0:Nat)+Int.toNat i43) (D.bool false))) <|
          again27 (((i28,i29,(i30,i31,i32,PUnit.unit),x33,x34,List.set l35 ((0:Nat)+Int.toNat i43) (D.bool false),(t36,l37),i38,n55,PUnit.unit),c49,c51,PUnit.unit)))
          (sif (List.length l35=List.length l35) <|
          zcb (α:=((Int×Int×Int×PUnit)×D×D×List D×(Tag×List D)×Int×Int×PUnit)×List (List D)×List (List D)×PUnit) (fun again56 (((i57,(i58,(i59,_))),(x60,(x61,(l62,((t63,l64),(i65,(i66,_))))))),(U67,(U68,_)))=>
            brK (decide (i66 < i65))
              (sif ((0:Int)≤i66) <|
              getK l64 (Int.toNat i66) fun d69=>
              asI IntKind.i64 d69 fun i70=>
              sif ((0:Nat)+List.length l62≤List.length l62) <|
              zar (zaO [x60,D.sl Tag.lent (cut (0:Nat) (List.length l62) l62),D.int IntKind.i64 i70,D.agg [D.int IntKind.i64 i57,D.int IntKind.i64 i58,D.int IntKind.i64 i59],D.agg [D.int IntKind.i64 (0:Int),D.int IntKind.i64 (0:Int),D.int IntKind.i64 (0:Int)],D.int IntKind.i64 (0:Int)] [U67,U68]) fun r71=>
              nilK r71.outs <|
              zcl r71.tbs fun c72 q73=>
              zcl q73 fun c74 q75=>
              nilK q75 <|
              asI IntKind.i64 r71.r fun i76=>
              brK (i76 != (0:Int))
                (some (D.bool false))
                (sif ((0:Int)≤i70) <|
                sif (Int.toNat i70 < List.length l62) <|
                getK l62 ((0:Nat)+Int.toNat i70) fun d77=>
                sif (D.isAgg d77=false) <|
                letN (IntKind.wrap IntKind.i64 (i66+(1:Int))) fun n78=>
                sif (List.length l62=List.length (List.set l62 ((0:Nat)+Int.toNat i70) (D.bool true))) <|
                again56 ((((i57,i58,i59,PUnit.unit),x60,x61,List.set l62 ((0:Nat)+Int.toNat i70) (D.bool true),(t63,l64),i65,n78,PUnit.unit),c72,c74,PUnit.unit))))
              (zcb (α:=((Int×Int×Int×PUnit)×D×D×Int×PUnit)×List (List D)×List (List D)×PUnit) (fun again79 (((i80,(i81,(i82,_))),(x83,(x84,(i85,_)))),(U86,(U87,_)))=>
                brK (decide (i85 < i81))
                  (zcb (α:=((Int×Int×Int×PUnit)×D×D×Int×Int×PUnit)×List (List D)×List (List D)×PUnit) (fun again88 (((i89,(i90,(i91,_))),(x92,(x93,(i94,(i95,_))))),(U96,(U97,_)))=>
                    brK (decide (i95 < (16:Int)))
                      (letN (IntKind.wrap IntKind.i64 ((36:Int)+i95)) fun n98=>
                      zar (zaB [x92,D.int IntKind.i64 i94,D.int IntKind.i64 n98] [U96,U97]) fun r99=>
                      nilK r99.outs <|
                      nilK r99.tbs <|
                      zev r99.r fun ts100=>
                      zaw ([Lf.any,Lf.any]) ts100 fun c101=>
                      za8 c101.fst fun l102=>
                      asI IntKind.i64 c101.snd.fst fun i103=>
                      letN (IntKind.wrap IntKind.i64 ((36:Int)+i95)) fun n104=>
                      zar (zaB [x93,D.int IntKind.i64 i94,D.int IntKind.i64 n104] [U96,U97]) fun r105=>
                      nilK r105.outs <|
                      nilK r105.tbs <|
                      zev r105.r fun ts106=>
                      zaw ([Lf.any,Lf.any]) ts106 fun c107=>
                      za8 c107.fst fun l108=>
                      asI IntKind.i64 c107.snd.fst fun i109=>
                      sif ((0:Nat)+List.length l102≤List.length l102) <|
                      sif ((0:Nat)+List.length l108≤List.length l108) <|
                      zar (zaZ [D.sl Tag.lent (cut (0:Nat) (List.length l102) l102),D.sl Tag.lent (cut (0:Nat) (List.length l108) l108)]) fun r110=>
                      asB r110 fun b111=>
                      brK (!b111)
                        (some (D.bool false))
                        (letN (IntKind.wrap IntKind.i64 (i95+(1:Int))) fun n112=>
                        again88 ((((i89,i90,i91,PUnit.unit),x92,x93,i94,n112,PUnit.unit),U96,U97,PUnit.unit))))
                      (letN (IntKind.wrap IntKind.i64 (i94+(1:Int))) fun n113=>
                      again79 ((((i89,i90,i91,PUnit.unit),x92,x93,n113,PUnit.unit),U96,U97,PUnit.unit))))
                    ((((i80,i81,i82,PUnit.unit),x83,x84,i85,(0:Int),PUnit.unit),U86,U87,PUnit.unit)))
                  (zar (zad [D.agg [D.int IntKind.i64 i80,D.int IntKind.i64 i81,D.int IntKind.i64 i82]]) fun r114=>
                  asB r114 fun b115=>
                  brK b115
                    (zar (zbj []) fun r116=>
                    asB r116 fun b117=>
                    some (D.bool b117))
                    (some (D.bool false))))
                ((((i57,i58,i59,PUnit.unit),x60,x61,(0:Int),PUnit.unit),U67,U68,PUnit.unit))))
            ((((i30,i31,i32,PUnit.unit),x33,x34,l35,(Tag.full,[D.int IntKind.i64 i29,D.int IntKind.i64 i28]),(↑(2:Nat):Int),(0:Int),PUnit.unit),U40,U41,PUnit.unit))))
        (((i18,n24,((6:Int),n4,c3.snd.snd.fst,PUnit.unit),r5.r,r11.r,l26,(Tag.full,[D.int IntKind.i64 i18,D.int IntKind.i64 n24]),(↑(2:Nat):Int),(0:Int),PUnit.unit),c12,c14,PUnit.unit))))
theorem ziy (zbz:List D→Option D) (zba:List D→List Tb→Option Ans) (za3:List D→List Tb→Option Ans) (zab:List D→Option D) (zbu:List D→Option D) (za9:List D→List Tb→Option Ans) (zaT:List D→List Tb→Option Ans) (zaO:List D→List Tb→Option Ans) (zaB:List D→List Tb→Option Ans) (zaZ:List D→Option D) (zad:List D→Option D) (zbj:List D→Option D) (tga1:Tag) (a0:Int) (a1:List D) (a2:Int) (a3:Int):denT Try.prog (zax [(ID.wattleplay_Good,(.pure [0] zbz)),(ID.wattlelaw16_Both,(.st [] [0] [(3840,true),(7649,true)] zba)),(ID.bench_Bench_Clone,(.st [] [0] [(3840,true),(7649,true)] za3)),(ID.wattlekeep_Within,(.pure [0] zab)),(ID.wattleplay_Live,(.pure [1] zbu)),(ID.bench_Bench_Fail,(.st [] [0] [(3840,false),(7649,true)] za9)),(ID.bench_Bench_Replace,(.st [] [0] [(3840,true),(7649,true)] zaT)),(ID.rebuild_Disk,(.st [] [0] [(3840,true),(7649,true)] zaO)),(ID.bench_Bench_Read,(.st [] [1,0] [(3840,false),(7649,false)] zaB)),(ID.wattlekeep_Same_byte,(.pure [0] zaZ)),(ID.wattleref01_Check,(.pure [0] zad)),(ID.wattlelaw16_wakes,(.pure [0] zbj))]) zea [0] ID.wattlelaw16_RebuildTwo [.int .i64 a0,.sl tga1 a1,.int .i64 a2,.int .i64 a3]=sif (D.nohL [.int .i64 a0,.sl tga1 a1,.int .i64 a2,.int .i64 a3]=true) (zdi zbz zba za3 zab zbu za9 zaT zaO zaB zaZ zad zbj a0 (D.lentL a1) a2 a3):=by kernel_rfl
theorem zg9 (tga1:Tag) (a0:Int) (a1:List D) (a2:Int) (a3:Int):zdh [.int .i64 a0,.sl tga1 a1,.int .i64 a2,.int .i64 a3]=sif (D.nohL [.int .i64 a0,.sl tga1 a1,.int .i64 a2,.int .i64 a3]=true) (zdi zbz zba za3 zab zbu za9 zaT zaO zaB zaZ zad zbj a0 (D.lentL a1) a2 a3):=ziy zbz zba za3 zab zbu za9 zaT zaO zaB zaZ zad zbj tga1 a0 a1 a2 a3
end Wf

namespace Wf
open Go Go.RowKit Go.Proofs
set_option linter.unusedSimpArgs false
set_option linter.unusedVariables false
set_option maxHeartbeats 4000000
theorem zyh {R α:Type} (t0 t1 t2:α) {B:(α→Option R)→α→Option R} {r:Option R} (h0:∀ again,B again t0=again t1) (h1:∀ again,B again t1=again t2) (h2:∀ again,B again t2=r):zcb B t0=r:=by
  refine zcG (fun j=>if j=0 then t0 else if j=1 then t1 else t2) 2 (by omega) (fun again j hj=>?_) fun again=>h2 again
  rcases (show j=0∨j=1 by omega) with rfl | rfl
  · exact h0 again
  · exact h1 again
theorem rebuild_two (a0:Int) (l:List Int) (a2 a3:Int) (tg:Tag):zdh [.int .i64 a0,.sl tg (intL l),.int .i64 a2,.int .i64 a3]=some (.bool true):=by
  rw [zg9,zqE]
  rw [zaa (by simp [D.nohL,D.noh,zBU])]
  unfold zdi
  have hgood:=zAN a0
  have hk0:=zyQ a0
  generalize zvt a0=g0 at*
  have hgD:g0.D=.agg [.int .i64 g0.l,.int .i64 g0.d,.int .i64 g0.c]:=rfl
  rw [hgD] at hgood
  have h0:=zeK.1 hk0
  obtain ⟨n,hn⟩:∃ n:Nat,(n:Int)=max g0.d 4:=⟨(max g0.d 4).toNat,by omega⟩
  have hn4:4≤n∧n≤8:=by omega
  let g:Geo:=⟨6,n,g0.c⟩
  have hk:g.ok=true:=zeK.2 ⟨.inr ⟨rfl,by show (4:Int)≤(n:Int); omega⟩,by show (n:Int)≤8; omega,h0.2.2⟩
  have hm:mayR g g 0=true:=zun.2 ⟨hk,by omega,by omega,.inl rfl⟩
  have hm2:mayR g ⟨0,0,0⟩ 0=true:=zun.2 ⟨hk,by omega,by omega,.inl rfl⟩
  have hga:∀ r,gAt g g 0 r=g:=by intro r; unfold gAt; rw [if_neg (by omega)]
  have hgb:∀ r,gAt g ⟨0,0,0⟩ 0 r=g:=by intro r; unfold gAt; rw [if_neg (by omega)]
  obtain ⟨U,V,idx,B,hboth,hB,hS,hw0,hc0,hz0⟩:=zCR [] [] hm (n:=n) (by omega) (by omega) .lent l
  simp only [List.length_nil] at hboth hB
  simp only [hga] at hc0
  have hboth':zba [.agg [.int .i64 6,.int .i64 n,.int .i64 g0.c],.agg [.int .i64 6,.int .i64 n,.int .i64 g0.c],.int .i64 0,.int .i64 n,.sl .lent (intL l)] [[],[]]=some (Ans.mk (.h kB 0 0) [] [P0 U 0 idx B,P1 V idx B]):=hboth
  obtain ⟨U1,V1,b2,j2,hcl,hB1,hA1⟩:=hB.clone (by omega)
  have hS1:=zw7 hS
  have wx:=zrh a2 n (by omega) (by omega)
  have x0:=Int.emod_nonneg a2 (show (n:Int)≠0 by omega)
  have x1:=Int.emod_lt_of_pos a2 (show (0:Int) < n by omega)
  generalize a2 % (n:Int)=x at*
  have wz:=zrh a3 ((n:Int) - 1) (by omega) (by omega)
  have z0:=Int.emod_nonneg a3 (show (n:Int) - 1≠0 by omega)
  have z1:=Int.emod_lt_of_pos a3 (show (0:Int) < (n:Int) - 1 by omega)
  generalize a3 % ((n:Int) - 1)=z at*
  obtain ⟨y,hy⟩:∃ y,y=(x+1+z) % n:=⟨_,rfl⟩
  have y0:0≤y:=by rw [hy]; exact Int.emod_nonneg _ (by omega)
  have y1:y < n:=by rw [hy]; exact Int.emod_lt_of_pos _ (by omega)
  have hxy:y≠x:=by
    by_cases h:x+1+z < n
    · rw [Int.emod_eq_of_lt (by omega) h] at hy; omega
    · rw [←Int.sub_emod_right,Int.emod_eq_of_lt (by omega) (by omega)] at hy; omega
  have wn1:IntKind.i64.wrap (x+1)=x+1:=zam (by omega) (by omega)
  have wn2:IntKind.i64.wrap ((n:Int) - 1)=(n:Int) - 1:=zam (by omega) (by omega)
  have wn3:IntKind.i64.wrap (x+1+z)=x+1+z:=zam (by omega) (by omega)
  have wn4:(x+1+z).tmod n=y:=by rw [zqS (by omega),hy]
  have hlive:=zCK (d:=n) (by omega) (by omega)
  obtain ⟨Bx,V2,i2,B2,ex1,ex2,hB2,hw2,kx,ax⟩:=hB1.swap x0 x1
  obtain ⟨By,V3,i3,B3,ey1,ey2,hB3,hw3,ky,ay⟩:=hB2.swap y0 y1
  obtain ⟨fx,cx,_⟩:=zsY hB1.num hB2.num kx
  obtain ⟨fy,cy,_⟩:=zsY hB2.num hB3.num ky
  have hA3:=ay _ _ _ (ax _ _ _ hA1)
  have hf3:∀ e:Int,0≤e→e < n→B3.failed e=false:=by
    intro e e0 e1
    rw [fy e e0 e1,fx e e0 e1,hS1.failed]; simp
  have hc3:∀ e a:Int,0≤e→0≤a→a < 52→e≠x→e≠y→B3.cur e a=B.cur e a:=by
    intro e a e0 a0 a1 h1 h2
    rw [cy e a e0 a0 a1,if_neg h2,cx e a e0 a0 a1,if_neg h1]; rfl
  have hl0:((List.replicate n true).map D.bool).length=n:=by simp
  have sx:=znQ (List.replicate n true) x.toNat false
  have sy:=znQ ((List.replicate n true).set x.toNat false) y.toNat false
  have sz:=znQ (((List.replicate n true).set x.toNat false).set y.toNat false) y.toNat true
  have gx:=znP (ks:=List.replicate n true) (k:=x.toNat) (by simp; omega)
  have gy:=znP (ks:=(List.replicate n true).set x.toNat false) (k:=y.toNat) (by simp; omega)
  have gz:=znP (ks:=((List.replicate n true).set x.toNat false).set y.toNat false) (k:=y.toNat) (by simp; omega)
  have gw:=znP (ks:=(((List.replicate n true).set x.toNat false).set y.toNat false).set y.toNat true) (k:=x.toNat) (by simp; omega)
  have ly:((((List.replicate n true).set x.toNat false).set y.toNat false)[y.toNat]?).getD false=false:=by
    rw [List.getElem?_set,if_pos rfl]; simp; split<;>rfl
  have ux:((((List.replicate n true).set x.toNat false).set y.toNat false)[x.toNat]?).getD false=false:=by
    rw [List.getElem?_set,if_neg (by omega),List.getElem?_set,if_pos rfl]; simp; split<;>rfl
  have lx:(((((List.replicate n true).set x.toNat false).set y.toNat false).set y.toNat true)[x.toNat]?).getD false=false:=by
    rw [List.getElem?_set,if_neg (by omega),List.getElem?_set,if_neg (by omega),List.getElem?_set,if_pos rfl]; simp; split<;>rfl
  have up1:∀ e:Int,0≤e→e < n→e≠x→e≠y→(((((List.replicate n true).set x.toNat false).set y.toNat false))[e.toNat]?).getD false=true:=by
    intro e e0 e1 h1 h2
    rw [List.getElem?_set,if_neg (by omega),List.getElem?_set,if_neg (by omega),List.getElem?_replicate,if_pos (by omega)]; rfl
  have up2:∀ e:Int,0≤e→e < n→e≠x→((((((List.replicate n true).set x.toNat false).set y.toNat false).set y.toNat true))[e.toNat]?).getD false=true:=by
    intro e e0 e1 h1
    rw [List.getElem?_set]
    by_cases h2:y.toNat=e.toNat
    · rw [if_pos h2]; simp; rw [if_pos (by omega)]; rfl
    · rw [if_neg h2]; exact up1 e e0 e1 h1 (by omega)
  have n1:((List.replicate n true).set x.toNat false).length=n:=by simp
  have n2:(((List.replicate n true).set x.toNat false).set y.toNat false).length=n:=by simp
  have n3:((((List.replicate n true).set x.toNat false).set y.toNat false).set y.toNat true).length=n:=by simp
  generalize (((List.replicate n true).set x.toNat false).set y.toNat false).set y.toNat true=L3 at*
  generalize ((List.replicate n true).set x.toNat false).set y.toNat false=L2 at*
  generalize (List.replicate n true).set x.toNat false=L1 at*
  generalize List.replicate n true=L0 at*
  have hn0:L0.length=n:=by simpa using hl0
  have hupof:∀ (C:Ben) (live:List Bool) (e:Int),C.n=n→e < n→C.failed e=false→(live[e.toNat]?).getD false=true→C.up live e=true:=by
    intro C live e hn he hf hl
    unfold Ben.up
    rw [hn,hl,hf]; simp [he]
  let dat:Nat→List (List Int):=fun r=>rowL g l r
  have hst1:zzc B3 L2 y g ⟨0,0,0⟩ 0 dat:=by
    intro r hr _
    rw [hgb r]
    refine ⟨zpO hk l r,?_,fun e e0 e1 hu=>?_⟩
    · have:B3.lostN L2 g≤2:=by
        unfold Ben.lostN
        refine Nat.le_trans (zv2 (a:=x.toNat) (b:=y.toNat) _ fun i hi hp=>?_) (by split<;>split<;>omega)
        refine Classical.byContradiction fun hq=>?_
        have hi':(i:Int) < n:=by show (i:Int) < g.d; omega
        rw [hupof B3 L2 i hB3.num hi' (hf3 i (by omega) hi') (up1 i (by omega) hi' (by omega) (by omega))] at hp; cases hp
      show (B3.lostN L2 g:Int)≤6 - 4
      omega
    · have hne:e≠y:=by rintro rfl; rw [zye ly] at hu; cases hu
      have hex:e≠x:=by rintro rfl; rw [zye ux] at hu; cases hu
      rw [hc3 e _ e0 (by omega) (by omega) hex hne]
      exact hc0 e r e0 e1 hr e1
  have hw3':B3.w≤0:=hB3.w
  obtain ⟨B4,e4,hB4,f4,c4,_⟩:=hB3.rebuild (by omega) .lent (live:=L2) (a:=g) (to:=⟨0,0,0⟩) (split:=0) y0 y1 ly hm2 (hf3 y y0 y1) hst1
  simp only [hgb] at c4
  have hf4:∀ e:Int,0≤e→e < n→B4.failed e=false:=fun e e0 e1=>(f4 e).trans (hf3 e e0 e1)
  have hc4:∀ (e:Int) (r:Nat),0≤e→e < n→e≠x→r < 16→B4.cur e (36+r)=B.cur e (36+r):=by
    intro e r e0 e1 hex hr
    have q1:((36:Int)+r - 36).toNat=r:=by omega
    have q2:(36:Int)+r - 36=r:=by omega
    rw [c4 e _ e0 (by omega) (by omega),q1,q2]
    by_cases hey:e=y
    · subst hey; rw [if_pos ⟨rfl,by omega,e1⟩]; exact (hc0 e r e0 e1 hr e1).symm
    · rw [if_neg (fun q=>hey q.1),hc3 e _ e0 (by omega) (by omega) hex hey]
  have hst2:zzc B4 L3 x g ⟨0,0,0⟩ 0 dat:=by
    intro r hr _
    rw [hgb r]
    refine ⟨zpO hk l r,?_,fun e e0 e1 hu=>?_⟩
    · have:=zyf (B:=B4) (live:=L3) (g:=g) (d:=x) (by show (0:Int)≤n; omega) fun e e0 e1 he=>hupof B4 L3 e hB4.num e1 (hf4 e e0 e1) (up2 e e0 e1 he)
      show (B4.lostN L3 g:Int)≤6 - 4
      omega
    · have hex:e≠x:=by rintro rfl; rw [zye lx] at hu; cases hu
      rw [hc4 e r e0 e1 hex hr]
      exact hc0 e r e0 e1 hr e1
  obtain ⟨B5,e5,hB5,f5,c5,_⟩:=hB4.rebuild (by omega) .lent (live:=L3) (a:=g) (to:=⟨0,0,0⟩) (split:=0) x0 x1 lx hm2 (hf4 x x0 x1) hst2
  simp only [hgb] at c5
  have hc5:∀ (e:Int) (r:Nat),0≤e→e < n→r < 16→B5.cur e (36+r)=B.cur e (36+r):=by
    intro e r e0 e1 hr
    have q1:((36:Int)+r - 36).toNat=r:=by omega
    have q2:(36:Int)+r - 36=r:=by omega
    rw [c5 e _ e0 (by omega) (by omega),q1,q2]
    by_cases hex:e=x
    · subst hex; rw [if_pos ⟨rfl,by omega,e1⟩]; exact (hc0 e r e0 e1 hr e1).symm
    · rw [if_neg (fun q=>hex q.1)]; exact hc4 e r e0 e1 hex hr
  have hww:=zEF
  have hck:zad [.agg [.int .i64 6,.int .i64 n,.int .i64 g0.c]]=some (.bool true):=by
    have:=zkP 6 n g0.c
    refine Eq.trans this ?_
    have hk':zeo 6 n g0.c=true:=hk
    rw [hk']
  have hcut:∀ l:List D,cut 0 l.length l=l:=fun l=>zoH rfl
  rw [hgood,zac,zj4,zeJ,zeJ,zeJ,zdS]
  dsimp only
  rw [zaJ,←hn,hboth',zac]
  dsimp only
  rw [zbE,zb5,zb5,zbE,zaa (by rfl),zwu,zas,hcl,zac]
  dsimp only
  rw [zbE,zb5,zb5,zbE,zaa (by rfl),zwu,zas,wx,zac,zbe,zaJ,wn1,zaJ,wn2,wz,zac,zbe,zaJ,wn3,zaa (by omega),zaJ,wn4,hlive,zac,zbF,zaa rfl]
  refine zyh
    (((x,y,((6:Int),(n:Int),g0.c,PUnit.unit),D.h kB 0 0,D.h kB b2 0,L0.map D.bool,(Tag.full,[D.int IntKind.i64 x,D.int IntKind.i64 y]),(2:Int),(0:Int),PUnit.unit),P0 U1 0 idx B.clean,P1 V1 idx B.clean,PUnit.unit))
    (((x,y,((6:Int),(n:Int),g0.c,PUnit.unit),D.h kB 0 0,D.h kB b2 0,L1.map D.bool,(Tag.full,[D.int IntKind.i64 x,D.int IntKind.i64 y]),(2:Int),(1:Int),PUnit.unit),P0 U1 0 i2 B2,P1 V2 i2 B2,PUnit.unit))
    (((x,y,((6:Int),(n:Int),g0.c,PUnit.unit),D.h kB 0 0,D.h kB b2 0,L2.map D.bool,(Tag.full,[D.int IntKind.i64 x,D.int IntKind.i64 y]),(2:Int),(2:Int),PUnit.unit),P0 U1 0 i3 B3,P1 V3 i3 B3,PUnit.unit))
    ?_ ?_ ?_
  · intro again
    · dsimp only
      rw [zrx (by omega),zaa (by omega),show Int.toNat 0=0 from rfl,zeV,zbe,ex1,zac]
      dsimp only
      rw [zbE,zb5,zbE,zbe,ex2,zac]
      dsimp only
      rw [zbE,zb5,zb5,zbE,zbe,zaa x0,zaa (by rw [List.length_map]; omega),Nat.zero_add,zai gx,zaa (by rfl),zaJ,zam (by omega) (by omega),sx,zaa (by rw [List.length_map,List.length_map]; omega)]
      rfl
  · intro again
    · dsimp only
      rw [zrx (by omega),zaa (by omega),show Int.toNat 1=1 from rfl,zdR,zeV,zbe,ey1,zac]
      dsimp only
      rw [zbE,zb5,zbE,zbe,ey2,zac]
      dsimp only
      rw [zbE,zb5,zb5,zbE,zbe,zaa y0,zaa (by rw [List.length_map]; omega),Nat.zero_add,zai gy,zaa (by rfl),zaJ,zam (by omega) (by omega),sy,zaa (by rw [List.length_map,List.length_map]; omega)]
      rfl
  · intro again
    dsimp only
    rw [zry (by omega),zaa rfl]
    have e4':zaO [.h kB 0 0,.sl .lent (L2.map D.bool),.int .i64 y,.agg [.int .i64 6,.int .i64 n,.int .i64 g0.c],.agg [.int .i64 0,.int .i64 0,.int .i64 0],.int .i64 0] [P0 U1 0 i3 B3,P1 V3 i3 B3]=some (Ans.mk (.int .i64 0) [] [P0 U1 0 i3 B4,P1 V3 i3 B4]):=e4
    have e5':zaO [.h kB 0 0,.sl .lent (L3.map D.bool),.int .i64 x,.agg [.int .i64 6,.int .i64 n,.int .i64 g0.c],.agg [.int .i64 0,.int .i64 0,.int .i64 0],.int .i64 0] [P0 U1 0 i3 B4,P1 V3 i3 B4]=some (Ans.mk (.int .i64 0) [] [P0 U1 0 i3 B5,P1 V3 i3 B5]):=e5
    refine zyh
      (((((6:Int),(n:Int),g0.c,PUnit.unit),D.h kB 0 0,D.h kB b2 0,L2.map D.bool,(Tag.full,[D.int IntKind.i64 y,D.int IntKind.i64 x]),(2:Int),(0:Int),PUnit.unit),P0 U1 0 i3 B3,P1 V3 i3 B3,PUnit.unit))
      (((((6:Int),(n:Int),g0.c,PUnit.unit),D.h kB 0 0,D.h kB b2 0,L3.map D.bool,(Tag.full,[D.int IntKind.i64 y,D.int IntKind.i64 x]),(2:Int),(1:Int),PUnit.unit),P0 U1 0 i3 B4,P1 V3 i3 B4,PUnit.unit))
      (((((6:Int),(n:Int),g0.c,PUnit.unit),D.h kB 0 0,D.h kB b2 0,(L3.set x.toNat true).map D.bool,(Tag.full,[D.int IntKind.i64 y,D.int IntKind.i64 x]),(2:Int),(2:Int),PUnit.unit),P0 U1 0 i3 B5,P1 V3 i3 B5,PUnit.unit))
      ?_ ?_ ?_
    · intro again
      · dsimp only
        rw [zrx (by omega),zaa (by omega),show Int.toNat 0=0 from rfl,zeV,zbe,zaa (by omega),hcut,e4',zac]
        dsimp only
        rw [zbE,zb5,zb5,zbE,zbe,zxJ rfl,zaa y0,zaa (by rw [List.length_map]; omega),Nat.zero_add,zai gz,zaa (by rfl),zaJ,zam (by omega) (by omega),sz,zaa (by rw [List.length_map,List.length_map]; omega)]
        rfl
    · intro again
      · dsimp only
        rw [zrx (by omega),zaa (by omega),show Int.toNat 1=1 from rfl,zdR,zeV,zbe,zaa (by omega),hcut,e5',zac]
        dsimp only
        rw [zbE,zb5,zb5,zbE,zbe,zxJ rfl,zaa x0,zaa (by rw [List.length_map]; omega),Nat.zero_add,zai gw,zaa (by rfl),zaJ,zam (by omega) (by omega),znQ,zaa (by simp)]
        rfl
    · intro again
      dsimp only
      rw [zry (by omega)]
      let s3:Nat→((Int×Int×Int×PUnit)×D×D×Int×PUnit)×List (List D)×List (List D)×PUnit:=fun e=>
        ((((6:Int),(n:Int),g0.c,PUnit.unit),D.h kB 0 0,D.h kB b2 0,(e:Int),PUnit.unit),P0 U1 0 i3 B5,P1 V3 i3 B5,PUnit.unit)
      show zcb _ (s3 0)=_
      refine zcG s3 n (by omega) ?_ ?_
      · intro again e he
        dsimp only [s3]
        have he':(e:Int) < n:=by omega
        rw [zrx he']
        let s4:Nat→((Int×Int×Int×PUnit)×D×D×Int×Int×PUnit)×List (List D)×List (List D)×PUnit:=fun r=>
          ((((6:Int),(n:Int),g0.c,PUnit.unit),D.h kB 0 0,D.h kB b2 0,(e:Int),(r:Int),PUnit.unit),P0 U1 0 i3 B5,P1 V3 i3 B5,PUnit.unit)
        show zcb _ (s4 0)=_
        refine zcG s4 16 (by omega) ?_ ?_
        · intro again2 r hr
          dsimp only [s4]
          have hr16:(r:Int) < 16:=by omega
          have hr1:=hB5.bread (by omega) (d:=(e:Int)) (a:=36+(r:Int)) (by omega) he' ((f5 e).trans (hf4 e (by omega) he')) (by omega) (by omega)
          have hr2:=hA3.read (by have:=hw0; show B.w≤1000000; omega) B5 (e:Int) (36+(r:Int))
          rw [zzh hS1 hB1.num (d:=(e:Int)) (a:=36+(r:Int)) (by omega) he' (by omega) (by omega)] at hr2
          have hcc:B.clean.cur (e:Int) (36+r)=B.cur e (36+r):=rfl
          rw [hcc] at hr2
          rw [hc5 e r (by omega) he' hr] at hr1
          have hsm:=zAP .lent .lent (B.cur e (36+r)) (B.cur e (36+r)) (by rw [(zBk hB.at'.ok (by omega) (by omega)).len]; decide)
          have wr:IntKind.i64.wrap (36+(r:Int))=36+(r:Int):=zam (by omega) (by omega)
          rw [zrx hr16,zaJ,wr,hr1,zac]
          dsimp only
          rw [zbE,zbE,zh6,zpc]
          dsimp only
          rw [zbF,zbe,zaJ,hr2,zac]
          dsimp only
          rw [zbE,zbE,zh6,zpc]
          dsimp only
          rw [zbF,zbe,zaa (by omega),zaa (by omega),hcut,hsm,zac,zcr,decide_eq_true rfl,Bool.not_true,zas,zaJ,zam (by omega) (by omega)]
          rfl
        · intro again2
          dsimp only [s4]
          rw [zry (by omega),zaJ,zam (by omega) (by omega)]
          rfl
      · intro again
        dsimp only [s3]
        rw [zry (by omega),hck,zac,zcr,za1,hww,zac,zcr]
end Wf

