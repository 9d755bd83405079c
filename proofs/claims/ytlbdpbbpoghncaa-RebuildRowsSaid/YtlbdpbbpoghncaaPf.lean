/- A part of the proof: lemmas that the law's row leans on. -/
import Derived.Test.YtlbdpbbpoghncaaPe
import Derived.Test.YtlbdpbbpoghncaaPd
set_option linter.all false
namespace Wf
open Go Go.RowKit Go.Proofs
set_option linter.unusedSimpArgs false
set_option linter.unusedVariables false
theorem gf_double (a:Int):za2 [.int .u8 a]=some (.int .u8 (dbl a)):=by
  rw [zrK]
  unfold zmA dbl
  by_cases h:128≤a
  · simp [h]
  · simp [h]
theorem zFP (a b:Int) (h0:0≤b) (h1:b < 256):zer [.int .u8 a,.int .u8 b]=some (.int .u8 (mul8 a b)):=by
  rw [zwQ]
  unfold zt3
  refine zlc (fun x=>x.1.2.1.toNat) (fun _=>some (D.int .u8 (mul8 a b)))
    (fun x=>∃ (n:Nat) (a' b' o:Int),0≤b'∧b' < 2 ^ n∧n≤8∧mulA n a' b' o=mul8 a b∧x=((a',b',o,PUnit.unit),PUnit.unit)) ?_ ⟨8,a,b,0,h0,h1,Nat.le_refl _,rfl,rfl⟩ (by simp; omega)
  rintro again _ ⟨n,a',b',o,p0,p1,p2,p3,rfl⟩ hag
  dsimp only
  by_cases hb:b' > 0
  · have hd:decide (b' > 0)=true:=by simp [hb]
    rw [hd,za0,zaO]
    cases n with
    | zero=>simp at p1; omega
    | succ n=>
      have hdiv:b'.fdiv 2=b' / 2:=Int.fdiv_eq_ediv_of_nonneg _ (by omega)
      have hlt:b' / 2 < 2 ^ n:=by
        have:(2:Int) ^ (n+1)=2 ^ n*2:=Int.pow_succ ..
        omega
      by_cases hone:bits .and .u8 b' 1=1
      · have hbo:(bits .and .u8 b' 1 == 1)=true:=by simp [hone]
        rw [hbo,za0,zaO,gf_double,zac,zbj,zaO,hdiv]
        refine hag _ ⟨n,_,_,_,by omega,hlt,by omega,?_,rfl⟩ (by simp; omega)
        rw [←p3]
        show _=mulA n (dbl a') (b' / 2) (if bits .and .u8 b' 1=1 then xor8 o a' else o)
        rw [if_pos hone]
      · have hbo:(bits .and .u8 b' 1 == 1)=false:=by simp [hone]
        rw [hbo,zas,gf_double,zac,zbj,zaO,hdiv]
        refine hag _ ⟨n,_,_,_,by omega,hlt,by omega,?_,rfl⟩ (by simp; omega)
        rw [←p3]
        show _=mulA n (dbl a') (b' / 2) (if bits .and .u8 b' 1=1 then xor8 o a' else o)
        rw [if_neg hone]
  · have hd:decide (b' > 0)=false:=by simp [hb]
    have:b'=0:=by omega
    subst this
    rw [hd,zas,←p3,zAs]
theorem zCz {a b:List Int} {k:Nat} {x y:Int} (h1:a[k]? =some x) (h2:b[k]? =some y):(List.zipWith xor8 a b).take (k+1)=(List.zipWith xor8 a b).take k++[xor8 x y]:=by
  rw [List.take_add_one]
  congr 1
  simp [List.getElem?_zipWith,h1,h2]
theorem zhv (t t':Tag) (a b:List Int) (ha:a.length < 100000):zaK [.sl t (uL a),.sl t' (uL b)]=some (.sl .own (uL (addL a b))):=by
  rw [zt4,zcX,zcX]
  unfold zoz addL
  by_cases hl:a.length=b.length
  · have hb:(((uL a).length:Int) != ((uL b).length:Int))=false:=by simp [hl]
    rw [hb,zas,if_pos hl]
    let st:Nat→(List D×List D×List D×Int×Int×PUnit)×PUnit:=fun k=>((uL b,uL ((List.zipWith xor8 a b).take k),uL a,(a.length:Int),(k:Int),PUnit.unit),PUnit.unit)
    have hst:st 0=((uL b,[],uL a,((uL a).length:Int),0,PUnit.unit),PUnit.unit):=by simp [st,uL]
    rw [←hst]
    refine zb6 st a.length ha ?_ ?_
    · intro again k hk
      dsimp only [st]
      have h1:a[k]? =some a[k]:=List.getElem?_eq_getElem hk
      have h2:b[k]? =some (b[k]'(by omega)):=List.getElem?_eq_getElem (by omega)
      have hd:decide ((k:Int) < (a.length:Int))=true:=by simp; omega
      rw [hd,za0,zaa (by omega),zaj (by simpa using zji h1),zbj,zaa (by omega),zaj (by simpa using zji h2),zbj,zaO,zaa (by simp; omega),zaa (by rfl),zaO,zao (by omega) (by omega),zaa (by simp)]
      rw [zCz h1 h2,←zAB]
      rfl
    · intro again
      dsimp only [st]
      have hd:decide ((a.length:Int) < (a.length:Int))=false:=by simp
      have ht:(List.zipWith xor8 a b).take a.length=List.zipWith xor8 a b:=List.take_of_length_le (by simp; omega)
      rw [hd,zas,zaa (by rfl),zaa (zgP _),ht]
  · have hb:(((uL a).length:Int) != ((uL b).length:Int))=true:=by simp; omega
    rw [hb,za0,if_neg hl]
    rfl
theorem ziB (t:Tag) (a:List Int) (ha:a.length < 100000) {f:Int} (h0:0≤f) (h1:f < 256):zaI [.sl t (uL a),.int .u8 f]=some (.sl .own (uL (a.map (mul8 · f)))):=by
  rw [zrc,zcX]
  unfold zkw
  let st:Nat→(Int×List D×List D×Int×Int×PUnit)×PUnit:=fun k=>((f,uL ((a.map (mul8 · f)).take k),uL a,(a.length:Int),(k:Int),PUnit.unit),PUnit.unit)
  have hst:st 0=((f,[],uL a,((uL a).length:Int),0,PUnit.unit),PUnit.unit):=by simp [st,uL]
  rw [←hst]
  refine zb6 st a.length ha ?_ ?_
  · intro again k hk
    dsimp only [st]
    have h2:a[k]? =some a[k]:=List.getElem?_eq_getElem hk
    have hd:decide ((k:Int) < (a.length:Int))=true:=by simp; omega
    rw [hd,za0,zaa (by omega),zaj (by simpa using zji h2),zbj,zFP _ _ h0 h1,zac,zbj,zaa (by simp; omega),zaa (by rfl),zaO,zao (by omega) (by omega),zaa (by simp)]
    have:(a.map (mul8 · f)).take (k+1)=(a.map (mul8 · f)).take k++[mul8 a[k] f]:=by rw [List.take_add_one]; simp [h2]
    rw [this,←zAB]
    rfl
  · intro again
    dsimp only [st]
    have hd:decide ((a.length:Int) < (a.length:Int))=false:=by simp
    have ht:(a.map (mul8 · f)).take a.length=a.map (mul8 · f):=List.take_of_length_le (by simp)
    rw [hd,zas,zaa (by rfl),zaa (zgP _),ht]
abbrev Part:=Tag×List Int
def pL (ps:List Part):List D:=ps.map fun x=>.sl x.1 (uL x.2)
def zbX (t:Tag) (l:List Int):Tag:=match t,l with
  | .nil,_=>.nil
  | .nn,[]=>.nn
  | .nul,[]=>.nul
  | _,_=>.lent
theorem zEv (t:Tag) (l:List Int):D.lent (.sl t (uL l))=.sl (zbX t l) (uL l):=by
  have h:=zcX l
  cases l with
  | nil=>cases t<;>rfl
  | cons n l=>
    have e:uL (n::l)=.int .u8 n::uL l:=rfl
    rw [e] at h ⊢
    cases t<;>simp only [D.lent,h,zbX]<;>simp [D.lentL,D.lent,zcX]
theorem zc0 (ps:List Part):D.lentL (pL ps)=pL (ps.map fun x=>(zbX x.1 x.2,x.2)):=by
  unfold pL
  rw [zqm,List.map_map,List.map_map]
  apply List.map_congr_left
  intro x _
  exact zEv x.1 x.2
@[simp] theorem zvS (ps:List Part):(pL ps).length=ps.length:=by simp [pL]
theorem zcB {ps:List Part} {k:Nat} {x:Part} (h:ps[k]? =some x):(pL ps)[k]? =some (.sl x.1 (uL x.2)):=by simp [pL,h]
theorem zA4 (ps:List Part) (t:Tag) (l:List Int):pL ps++[.sl t (uL l)]=pL (ps++[(t,l)]):=by simp [pL]
theorem zpi (ps:List Part) (i:Nat) (t:Tag) (l:List Int):(pL ps).set i (.sl t (uL l))=pL (ps.set i (t,l)):=by simp [pL,List.map_set]
def Part.free (x:Part):Bool:=x.1=.fresh || x.1=.full || x.1=.nil
theorem zkW {ps:List Part} (h:∀ x∈ps,x.free=true):(pL ps).all D.free=true:=by
  unfold pL
  rw [List.all_map,List.all_eq_true]
  intro x hx
  have:=h x hx
  obtain ⟨t,l⟩:=x
  cases t<;>first | (exact ztR l) | (exact absurd this (by simp [Part.free]))
theorem zvT (k:Nat) (hk:k < 255):zaT [.int .i64 k]=some (.int .u8 (pow8 k)):=by
  rw [zrd]
  unfold zpR
  have e1:Int.tmod (k:Int) 255=k:=by rw [Int.tmod_eq_emod_of_nonneg (by omega),Int.emod_eq_of_lt (by omega) (by omega)]
  have e2:Int.tmod ((k:Int)+255) 255=k:=by
    rw [Int.tmod_eq_emod_of_nonneg (by omega),Int.add_emod_right,Int.emod_eq_of_lt (by omega) (by omega)]
  rw [zaO,e1,zaO,zao (by omega) (by omega),zaO,e2]
  refine zb6 (fun j=>((pow8 j,(k:Int),(j:Int),PUnit.unit),PUnit.unit)) k (by omega) ?_ ?_
  · intro again j hj
    dsimp only
    have hd:decide ((j:Int) < (k:Int))=true:=by simp; omega
    rw [hd,za0,gf_double,zac,zbj,zaO,zao (by omega) (by omega)]
    rfl
  · intro again
    have hd:decide ((k:Int) < (k:Int))=false:=by simp
    dsimp only
    rw [hd,zas]
theorem zA5 (tg:Tag) {ps:List Part} {n:Nat} (hn:n < 100000) (h0:0 < ps.length) (h1:ps.length < 255) (h:∀ x∈ps,x.2.length=n):
    zbU [.sl tg (pL ps)]=some (.sl .own (uL (sumP n (ps.map (·.2))))):=by
  rw [zwR,zc0]
  unfold zt8
  have hsum:∀ {qs:List Part},0 < qs.length→qs.length < 255→(∀ x∈qs,x.2.length=n)→∀ tg,zbJ [.sl tg (pL qs),.fn ID.synd_P_1 [] []]=some (.sl .own (uL (sumP n (qs.map (·.2))))):=by
    intro qs h0 h1 h tg
    rw [zpv,zc0]
    have hl':∀ x∈(qs.map fun x=>(zbX x.1 x.2,x.2)),x.2.length=n:=by
      intro x hx; obtain ⟨y,hy,rfl⟩:=List.mem_map.1 hx; exact h y hy
    have hm:(qs.map fun x=>(zbX x.1 x.2,x.2)).map (·.2)=qs.map (·.2):=by rw [List.map_map]; rfl
    rw [←hm]
    have hlen:(qs.map fun x=>(zbX x.1 x.2,x.2)).length=qs.length:=by simp
    rw [←hlen] at h0 h1
    generalize (qs.map fun x=>(zbX x.1 x.2,x.2))=rs at*
    clear hm hlen h qs
    unfold ziX
    have hb:(((pL rs).length:Int) == 0)=false:=by simp; intro e; rw [e] at h0; simp at h0
    obtain ⟨x0,hx0⟩:∃ x,rs[0]? =some x:=⟨_,List.getElem?_eq_getElem h0⟩
    have hx0l:=hl' x0 (List.mem_of_getElem? hx0)
    rw [hb,zas,zaj (zcB hx0),zev,zaa (by rfl),zdE,hx0l,zaa (by omega),zaa (by omega),zaa (by simp),Int.toNat_natCast,zqO]
    have hls:∀ l∈rs.map (·.2),l.length=n:=by intro l hl; obtain ⟨y,hy,rfl⟩:=List.mem_map.1 hl; exact hl' y hy
    let st:Nat→(List D×List D×Int×Int×PUnit)×PUnit:=fun k=>((uL (sumK (fun _=>1) n (rs.map (·.2)) k),pL rs,((pL rs).length:Int),(k:Int),PUnit.unit),PUnit.unit)
    have hst:st 0=((uL (List.replicate n 0),pL rs,((pL rs).length:Int),0,PUnit.unit),PUnit.unit):=rfl
    rw [←hst]
    refine zb6 st rs.length (by omega) ?_ ?_
    · intro again k hk
      dsimp only [st]
      obtain ⟨x,hx⟩:∃ x,rs[k]? =some x:=⟨_,List.getElem?_eq_getElem hk⟩
      have hxl:=hl' x (List.mem_of_getElem? hx)
      have hd:decide ((k:Int) < ((pL rs).length:Int))=true:=by simp; omega
      have hsl:=zle (f:=fun _=>1) hls (k:=k) (by simp; omega)
      rw [hd,za0,zaa (by omega),zaj (by simpa using zcB hx),zev,zaa (by omega)]
      have hb2:(((uL x.2).length:Int) != ((uL (sumK (fun _=>1) n (rs.map (·.2)) k)).length:Int))=false:=by simp [hxl,hsl]
      have hone:zbx [.int .i64 (k:Int)]=some (.int .u8 1):=by rw [zt5]; rfl
      rw [hb2,zas,hone,zac,zbj,ziB _ _ (by omega) (by omega) (by omega),zac,zbI,zaa (by omega),zaa (by omega),zdg,zdg,zhv _ _ _ _ (by omega),zac,zbI,zaO,
        zao (by omega) (by omega),zaa (by rfl)]
      have he:addL (sumK (fun _=>1) n (rs.map (·.2)) k) (x.2.map (mul8 · 1))=sumK (fun _=>1) n (rs.map (·.2)) (k+1):=by
        unfold addL
        rw [if_pos (by simp [hsl,hxl])]
        have:(rs.map (·.2)).getD k []=x.2:=by simp [List.getD_eq_getElem?_getD,hx]
        simp only [sumK,this]
      rw [he]
      rfl
    · intro again
      dsimp only [st]
      have hd:decide ((rs.length:Int) < ((pL rs).length:Int))=false:=by simp
      rw [hd,zas,zaa (by rfl),zaa (zgP _)]
      simp [sumP]
  rw [hsum (by simpa using h0) (by simpa using h1) (by intro x hx; obtain ⟨y,hy,rfl⟩:=List.mem_map.1 hx; exact h y hy),zac,zbI,zaa (by rfl),zaa (zgP _),List.map_map]
  rfl
theorem zA6 (tg:Tag) {ps:List Part} {n:Nat} (hn:n < 100000) (h0:0 < ps.length) (h1:ps.length < 255) (h:∀ x∈ps,x.2.length=n):
    zbV [.sl tg (pL ps)]=some (.sl .own (uL (sumQ n (ps.map (·.2))))):=by
  rw [zwS,zc0]
  unfold zt9
  have hsum:∀ {qs:List Part},0 < qs.length→qs.length < 255→(∀ x∈qs,x.2.length=n)→∀ tg,zbJ [.sl tg (pL qs),.fn ID.gf_Pow [] []]=some (.sl .own (uL (sumQ n (qs.map (·.2))))):=by
    intro qs h0 h1 h tg
    rw [zpw,zc0]
    have hl':∀ x∈(qs.map fun x=>(zbX x.1 x.2,x.2)),x.2.length=n:=by
      intro x hx; obtain ⟨y,hy,rfl⟩:=List.mem_map.1 hx; exact h y hy
    have hm:(qs.map fun x=>(zbX x.1 x.2,x.2)).map (·.2)=qs.map (·.2):=by rw [List.map_map]; rfl
    rw [←hm]
    have hlen:(qs.map fun x=>(zbX x.1 x.2,x.2)).length=qs.length:=by simp
    rw [←hlen] at h0 h1
    generalize (qs.map fun x=>(zbX x.1 x.2,x.2))=rs at*
    clear hm hlen h qs
    unfold ziY
    have hb:(((pL rs).length:Int) == 0)=false:=by simp; intro e; rw [e] at h0; simp at h0
    obtain ⟨x0,hx0⟩:∃ x,rs[0]? =some x:=⟨_,List.getElem?_eq_getElem h0⟩
    have hx0l:=hl' x0 (List.mem_of_getElem? hx0)
    rw [hb,zas,zaj (zcB hx0),zev,zaa (by rfl),zdE,hx0l,zaa (by omega),zaa (by omega),zaa (by simp),Int.toNat_natCast,zqO]
    have hls:∀ l∈rs.map (·.2),l.length=n:=by intro l hl; obtain ⟨y,hy,rfl⟩:=List.mem_map.1 hl; exact hl' y hy
    let st:Nat→(List D×List D×Int×Int×PUnit)×PUnit:=fun k=>((uL (sumK pow8 n (rs.map (·.2)) k),pL rs,((pL rs).length:Int),(k:Int),PUnit.unit),PUnit.unit)
    have hst:st 0=((uL (List.replicate n 0),pL rs,((pL rs).length:Int),0,PUnit.unit),PUnit.unit):=rfl
    rw [←hst]
    refine zb6 st rs.length (by omega) ?_ ?_
    · intro again k hk
      dsimp only [st]
      obtain ⟨x,hx⟩:∃ x,rs[k]? =some x:=⟨_,List.getElem?_eq_getElem hk⟩
      have hxl:=hl' x (List.mem_of_getElem? hx)
      have hd:decide ((k:Int) < ((pL rs).length:Int))=true:=by simp; omega
      have hsl:=zle (f:=pow8) hls (k:=k) (by simp; omega)
      rw [hd,za0,zaa (by omega),zaj (by simpa using zcB hx),zev,zaa (by omega)]
      have hb2:(((uL x.2).length:Int) != ((uL (sumK pow8 n (rs.map (·.2)) k)).length:Int))=false:=by simp [hxl,hsl]
      have hone:=zvT k (by omega)
      rw [hb2,zas,hone,zac,zbj,ziB _ _ (by omega) (zib k).1 (zib k).2,zac,zbI,zaa (by omega),zaa (by omega),zdg,zdg,zhv _ _ _ _ (by omega),zac,zbI,zaO,
        zao (by omega) (by omega),zaa (by rfl)]
      have he:addL (sumK pow8 n (rs.map (·.2)) k) (x.2.map (mul8 · (pow8 k)))=sumK pow8 n (rs.map (·.2)) (k+1):=by
        unfold addL
        rw [if_pos (by simp [hsl,hxl])]
        have:(rs.map (·.2)).getD k []=x.2:=by simp [List.getD_eq_getElem?_getD,hx]
        simp only [sumK,this]
      rw [he]
      rfl
    · intro again
      dsimp only [st]
      have hd:decide ((rs.length:Int) < ((pL rs).length:Int))=false:=by simp
      rw [hd,zas,zaa (by rfl),zaa (zgP _)]
      simp [sumQ]
  rw [hsum (by simpa using h0) (by simpa using h1) (by intro x hx; obtain ⟨y,hy,rfl⟩:=List.mem_map.1 hx; exact h y hy),zac,zbI,zaa (by rfl),zaa (zgP _),List.map_map]
  rfl
end Wf

namespace Wf
open Go Go.RowKit Go.Proofs
set_option linter.unusedSimpArgs false
set_option linter.unusedVariables false
theorem zA7 (l:List Int):(intL l).all D.free=true:=by simp [intL,D.free]
theorem zA8 (l:List Int) (n:Int):intL l++[.int .i64 n]=intL (l++[n]):=by simp [intL]
def zw1 (ls:List (List Int)) (k:Nat):List Int:=((List.range k).filter fun i=>(ls.getD i []).isEmpty).map Int.ofNat
def miss (ls:List (List Int)):List Int:=zw1 ls ls.length
theorem zy6 (ls:List (List Int)) (k:Nat):zw1 ls (k+1)=zw1 ls k++if (ls.getD k []).isEmpty then [(k:Int)] else []:=by
  unfold zw1
  rw [List.range_succ,List.filter_append,List.map_append]
  congr 1
  by_cases h:(ls.getD k []).isEmpty=true
  · rw [if_pos h,List.filter_cons_of_pos (p:=fun i=>(ls.getD i []).isEmpty) h]; rfl
  · rw [if_neg h,List.filter_cons_of_neg (p:=fun i=>(ls.getD i []).isEmpty) h]; rfl
theorem zA9 (ls:List (List Int)) (k:Nat):(zw1 ls k).length≤k:=by
  unfold zw1
  rw [List.length_map]
  exact Nat.le_trans (List.length_filter_le _ _) (by simp)
theorem znW (tg:Tag) (ps:List Part) (hn:ps.length < 100000):zbC [.sl tg (pL ps)]=some (.sl .own (intL (miss (ps.map (·.2))))):=by
  rw [znA,zc0]
  have hm:(ps.map fun x=>(zbX x.1 x.2,x.2)).map (·.2)=ps.map (·.2):=by rw [List.map_map]; rfl
  have hlen:(ps.map fun x=>(zbX x.1 x.2,x.2)).length=ps.length:=by simp
  rw [←hm]
  rw [←hlen] at hn
  generalize (ps.map fun x=>(zbX x.1 x.2,x.2))=rs at*
  unfold zgY
  let st:Nat→(List D×List D×Int×Int×PUnit)×PUnit:=fun k=>((intL (zw1 (rs.map (·.2)) k),pL rs,((pL rs).length:Int),(k:Int),PUnit.unit),PUnit.unit)
  have hst:st 0=(([],pL rs,((pL rs).length:Int),0,PUnit.unit),PUnit.unit):=rfl
  rw [←hst]
  refine zb6 st rs.length (by omega) ?_ ?_
  · intro again k hk
    dsimp only [st]
    obtain ⟨x,hx⟩:∃ x,rs[k]? =some x:=⟨_,List.getElem?_eq_getElem hk⟩
    have hd:decide ((k:Int) < ((pL rs).length:Int))=true:=by simp; omega
    have hk2:=zA9 (rs.map (·.2)) k
    have hgd:(rs.map (·.2)).getD k []=x.2:=by simp [List.getD_eq_getElem?_getD,hx]
    rw [hd,za0,zaa (by omega),zaj (by simpa using zcB hx),zev,zy6,hgd]
    by_cases he:x.2=[]
    · have hb:(((uL x.2).length:Int) == 0)=true:=by simp [he]
      rw [hb,za0,zaa (by rw [zgr]; omega),zaa (by rfl),zaO,zao (by omega) (by omega),zaa (by simp),zA8,he]
      rfl
    · have hb:(((uL x.2).length:Int) == 0)=false:=by simp; omega
      have hb2:x.2.isEmpty=false:=by simp [he]
      rw [hb,zas,zaO,zao (by omega) (by omega),zaa (by rfl),hb2]
      simp
  · intro again
    dsimp only [st]
    have hd:decide ((rs.length:Int) < ((pL rs).length:Int))=false:=by simp
    rw [hd,zas,zaa (by rfl),zaa (zA7 _)]
    simp [miss]
theorem zGz (t:Tag) (l:List Int) (n:Int):zaE [.sl t (uL l),.at_ (.int .i64 n)]=some (.bool (!fitS n l)):=by
  rw [zow,zcX]
  unfold zhG fitS
  cases l with
  | nil=>simp
  | cons a l=>
    have hd:decide (((uL (a::l)).length:Int) > 0)=true:=by simp
    rw [hd,za0]
    simp [bne]
    rfl
theorem zrX (tg:Tag) (ps:List Part) (hn:ps.length < 100000) (n:Int):
    ∃ r,zai [.sl tg (pL ps),.fn ID.erase_fits_1 [] [.at_ (.int .i64 n)]]=some r∧∃ i:Int,r=.int .i64 i∧decide (i≥0)= !(ps.all fun x=>fitS n x.2):=by
  rw [zeg,zc0]
  have hm:(ps.all fun x=>fitS n x.2)=((ps.map fun x=>(zbX x.1 x.2,x.2)).all fun x=>fitS n x.2):=by rw [List.all_map]; rfl
  have hlen:(ps.map fun x=>(zbX x.1 x.2,x.2)).length=ps.length:=by simp
  rw [hm]
  rw [←hlen] at hn
  generalize (ps.map fun x=>(zbX x.1 x.2,x.2))=rs at*
  unfold zcc
  refine zxM (fun a=>(rs.length:Nat) - a.1.2.2.2.1.toNat) (fun r=>∃ i:Int,r=D.int .i64 i∧decide (i≥0)= !(rs.all fun x=>fitS n x.2))
    (fun a=>∃ k:Nat,k≤rs.length∧((rs.take k).all fun x=>fitS n x.2)=true∧a=((pL rs,n,(rs.length:Int),(k:Int),PUnit.unit),PUnit.unit)) ?_ ⟨0,by omega,by simp,by rw [zvS]; rfl⟩ (by simp; omega)
  rintro again _ ⟨k,hk,he,rfl⟩ hag
  dsimp only
  by_cases hkm:k < rs.length
  · obtain ⟨x,hx⟩:∃ x,rs[k]? =some x:=⟨_,List.getElem?_eq_getElem hkm⟩
    have hd:decide ((k:Int) < (rs.length:Int))=true:=by simp; omega
    rw [hd,za0,zaa (by omega),zaj (by simpa using zcB hx),zev,zGz,zac,zch]
    cases hf:fitS n x.2
    · refine ⟨_,rfl,_,rfl,?_⟩
      have:(rs.all fun x=>fitS n x.2)=false:=by
        rw [List.all_eq_false]
        exact ⟨x,List.mem_of_getElem? hx,by simp [hf]⟩
      rw [this]
      simp
    · simp only [Bool.not_true,zas,zaO]
      rw [zao (by omega) (by omega)]
      refine hag _ ⟨k+1,by omega,?_,rfl⟩ (by simp; omega)
      rw [List.take_add_one,hx,List.all_append,he]
      simp [hf]
  · have hd:decide ((k:Int) < (rs.length:Int))=false:=by simp; omega
    rw [hd,zas]
    refine ⟨_,rfl,_,rfl,?_⟩
    rw [List.take_of_length_le (by omega)] at he
    rw [he]
    rfl
theorem erase_fits (tg:Tag) (ps:List Part) (hn:ps.length < 100000) (n:Int):zb5 [.int .i64 n,.sl tg (pL ps)]=some (.bool (ps.all fun x=>fitS n x.2)):=by
  rw [zra,zc0]
  have hm:(ps.all fun x=>fitS n x.2)=((ps.map fun x=>(zbX x.1 x.2,x.2)).all fun x=>fitS n x.2):=by rw [List.all_map]; rfl
  have hlen:(ps.map fun x=>(zbX x.1 x.2,x.2)).length=ps.length:=by simp
  rw [hm]
  rw [←hlen] at hn
  generalize (ps.map fun x=>(zbX x.1 x.2,x.2))=rs at*
  unfold zkv
  have:zae [.sl .lent (pL rs),.fn ID.erase_fits_1 [] [.at_ (.int .i64 n)]]=some (.bool (!(rs.all fun x=>fitS n x.2))):=by
    rw [zdI,zc0]
    have hm:(rs.all fun x=>fitS n x.2)=((rs.map fun x=>(zbX x.1 x.2,x.2)).all fun x=>fitS n x.2):=by rw [List.all_map]; rfl
    have hlen:(rs.map fun x=>(zbX x.1 x.2,x.2)).length=rs.length:=by simp
    rw [hm]
    rw [←hlen] at hn
    generalize (rs.map fun x=>(zbX x.1 x.2,x.2))=qs at*
    unfold zb3
    obtain ⟨r,h1,i,rfl,h2⟩:=zrX .lent qs hn n
    rw [h1,zac,zbj,h2]
  rw [this,zac,zch,Bool.not_not]
theorem zEw {l:List D} {n:Nat} (h:l.length=n):cut 0 n l=l:=by subst h; exact zdg l
theorem erase_filled (n:Nat) (hn0:n < 100000) (tg:Tag) (ps:List Part) (hn:ps.length < 100000):zbN [.int .i64 n,.sl tg (pL ps)]=some (.sl .own (pL (ps.map fun x=>(Tag.fresh,zjt n x.2)))):=by
  rw [zoy,zc0]
  have hm:(ps.map fun x=>(Tag.fresh,zjt n x.2))=((ps.map fun x=>(zbX x.1 x.2,x.2)).map fun x=>(Tag.fresh,zjt n x.2)):=by rw [List.map_map]; rfl
  have hlen:(ps.map fun x=>(zbX x.1 x.2,x.2)).length=ps.length:=by simp
  rw [hm]
  rw [←hlen] at hn
  generalize (ps.map fun x=>(zbX x.1 x.2,x.2))=rs at*
  unfold zhH
  let st:Nat→(Int×List D×List D×Int×Int×PUnit)×PUnit:=fun k=>(((n:Int),pL ((rs.take k).map fun x=>(Tag.fresh,zjt n x.2)),pL rs,((pL rs).length:Int),(k:Int),PUnit.unit),PUnit.unit)
  have hst:st 0=(((n:Int),[],pL rs,((pL rs).length:Int),0,PUnit.unit),PUnit.unit):=rfl
  rw [←hst]
  refine zb6 st rs.length (by omega) ?_ ?_
  · intro again k hk
    dsimp only [st]
    obtain ⟨x,hx⟩:∃ x,rs[k]? =some x:=⟨_,List.getElem?_eq_getElem hk⟩
    have hd:decide ((k:Int) < ((pL rs).length:Int))=true:=by simp; omega
    have hfill:([]++List.take (Int.toNat (n:Int)) (uL x.2)++List.drop ((0:Nat)+List.length (List.take (Int.toNat (n:Int)) (uL x.2))) (List.replicate (Int.toNat (n:Int)) (D.int IntKind.u8 (0:Int))))=uL (zjt n x.2):=by
      rw [Int.toNat_natCast,zwE,zqO,zwF,Nat.zero_add,zdE,List.nil_append,←zAA]; rfl
    rw [hd,za0,zaa (by omega),zaj (by simpa using zcB hx),zev,zaa (by omega),zaa (by rfl),zaa (by omega),zaa (by omega),zaa (by simp),zaa (zxR _),hfill,zaa (by simp [zic]),zaa (by simp; omega),zaa (by rfl),
      zaO,zao (by omega) (by omega),zaa (by simp),zEw (by simp [zic]),zA4]
    have:(rs.take (k+1)).map (fun x=>(Tag.fresh,zjt n x.2))=(rs.take k).map (fun x=>(Tag.fresh,zjt n x.2))++[(Tag.fresh,zjt n x.2)]:=by rw [List.take_add_one,hx]; simp
    rw [this]
    rfl
  · intro again
    dsimp only [st]
    have hd:decide ((rs.length:Int) < ((pL rs).length:Int))=false:=by simp
    rw [hd,zas,zaa (by rfl),List.take_length,zaa (zkW (by intro x hx; obtain ⟨y,hy,rfl⟩:=List.mem_map.1 hx; rfl))]
def fP (ls:List (List Int)):List Part:=ls.map fun l=>(Tag.fresh,l)
@[simp] theorem zBa (ls:List (List Int)):(fP ls).length=ls.length:=by simp [fP]
theorem zsT (ls:List (List Int)):(fP ls).map (·.2)=ls:=by
  unfold fP
  rw [List.map_map]
  exact List.map_id ls
theorem zf6 (ls:List (List Int)):(pL (fP ls)).all D.free=true:=zkW (by intro x hx; obtain ⟨y,_,rfl⟩:=List.mem_map.1 hx; rfl)
theorem zFQ (ls:List (List Int)) (i:Nat) (l:List Int):(fP ls).set i (Tag.fresh,l)=fP (ls.set i l):=by simp [fP,List.map_set]
theorem zsU {ls:List (List Int)} {k:Nat} {l:List Int} (h:ls[k]? =some l):(fP ls)[k]? =some (Tag.fresh,l):=by simp [fP,h]
theorem zCA (ps:List Part):(ps.map fun x=>(Tag.fresh,zjt 32 x.2))=fP (zco (ps.map (·.2))):=by simp [fP,zco]
theorem zCB (ls:List (List Int)):miss ls=(zc8 ls).map Int.ofNat:=rfl
theorem zy7 (k:Nat) (hk:k < 100000):zaT [.int .i64 k]=some (.int .u8 (pow8 (k % 255))):=by
  have h:=zvT (k % 255) (Nat.mod_lt _ (by omega))
  rw [zrd] at h ⊢
  unfold zpR at h ⊢
  have e1:Int.tmod (k:Int) 255=((k % 255:Nat):Int):=by rw [Int.tmod_eq_emod_of_nonneg (by omega)]; omega
  have e2:Int.tmod ((k % 255:Nat):Int) 255=((k % 255:Nat):Int):=by rw [Int.tmod_eq_emod_of_nonneg (by omega)]; omega
  rw [e1]
  rw [e2] at h
  exact h
theorem zFR {a:Nat} (ha:a < 256):zes [.int .u8 a]=some (.int .i64 (if logN a=255 then -1 else (logN a:Int))):=by
  rw [zwU]
  unfold zua
  refine zlc (a:=(((a:Int),(1:Int),(0:Int),PUnit.unit),PUnit.unit)) (fun x=>(255 - x.1.2.2.1).toNat) (fun x=>some (D.int .i64 (if logF a (255 - x.1.2.2.1.toNat) x.1.2.1.toNat x.1.2.2.1.toNat=255 then -1 else (logF a (255 - x.1.2.2.1.toNat) x.1.2.1.toNat x.1.2.2.1.toNat:Int))))
    (fun x=>∃ n y:Nat,n≤255∧y < 256∧x=(((a:Int),(y:Int),(n:Int),PUnit.unit),PUnit.unit)) ?_ ⟨0,1,by omega,by omega,rfl⟩ (by simp)
  rintro again _ ⟨n,y,hn,hy,rfl⟩ hag
  dsimp only
  rw [Int.toNat_natCast,Int.toNat_natCast]
  by_cases h:n < 255
  · have e:255 - n=(255 - (n+1))+1:=by omega
    have hd:decide ((n:Int) < 255)=true:=by simp; omega
    rw [hd,za0,e]
    by_cases hya:y=a
    · subst hya
      have:logF y (255 - (n+1)+1) y n=n:=by unfold logF; rw [if_pos rfl]
      rw [this,if_neg (by omega)]
      simp
    · have hb:((y:Int) == (a:Int))=false:=by simp; omega
      have:logF a (255 - (n+1)+1) y n=logF a (255 - (n+1)) (dblN y) (n+1):=by rw [logF,if_neg hya]
      have hh:=hag (((a:Int),((dblN y:Nat):Int),((n+1:Nat):Int),PUnit.unit),PUnit.unit) ⟨n+1,dblN y,by omega,zkb hy,rfl⟩ (by dsimp only; omega)
      dsimp only at hh
      rw [Int.toNat_natCast,Int.toNat_natCast] at hh
      rw [hb,zas,gf_double,zac,zbj,zaO,zao (by omega) (by omega),zwy hy,this]
      exact hh
  · have:n=255:=by omega
    subst this
    simp [logF]
theorem zDl {a:Int} (ha:Byt a):zcz [.int .u8 a]=some (.int .u8 (inv8 a)):=by
  obtain ⟨m,hm,rfl⟩:=zew ha
  rw [zwV]
  unfold zub inv8 invN
  rw [Int.toNat_natCast]
  by_cases h0:m=0
  · subst h0; simp
  · obtain ⟨h1,h2⟩:=zEe m hm h0
    have hb:((m:Int) == 0)=false:=by simp; omega
    rw [hb,zas,zFR hm,zac,zbj,if_neg (by omega),if_neg h0,zaO,zao (by omega) (by omega),show (255:Int) - (logN m:Int)=((255 - logN m:Nat):Int) by omega,zy7 _ (by omega),zac,zbj,zld]
section
variable {ps:List Part} (h1:0 < ps.length) (h8:ps.length≤8) (hs:∀ x∈ps,x.2.length=32)
include h1 h8 hs
theorem by_q (tq tg:Tag) {q:List Int} (hq:q.length=32) {k:Nat} (hk:k < 8):
    zcp [.sl tq (uL q),.sl tg (pL ps),.int .i64 k]=some (.sl .own (uL (byQ q (ps.map (·.2)) k))):=by
  rw [zrR,zcX,zc0]
  have hm:(ps.map fun x=>(zbX x.1 x.2,x.2)).map (·.2)=ps.map (·.2):=by rw [List.map_map]; rfl
  have hlen:(ps.map fun x=>(zbX x.1 x.2,x.2)).length=ps.length:=by simp
  have hs':∀ x∈(ps.map fun x=>(zbX x.1 x.2,x.2)),x.2.length=32:=by intro x hx; obtain ⟨y,hy,rfl⟩:=List.mem_map.1 hx; exact hs y hy
  rw [←hm]
  rw [←hlen] at h1 h8
  generalize (ps.map fun x=>(zbX x.1 x.2,x.2))=rs at*
  unfold zmE
  have hQ:=zA6 (n:=32) .lent (ps:=rs) (by omega) h1 (by omega) hs'
  have hr:Byt (inv8 (pow8 k)):=zxQ _
  have ha:(addL q (sumQ 32 (rs.map (·.2)))).length < 100000:=by unfold addL; split<;>simp<;>omega
  simp (disch:=first | omega | assumption | (simp; done) | fail) [-List.all_eq_true,hQ,zhv _ _ _ _ (show q.length < 100000 by omega),zvT k (by omega),zDl (zxO k),ziB _ _ ha hr.1 hr.2]
  rfl
theorem zFS (tp tq tg:Tag) {p q:List Int} (hp:p.length=32) (hq:q.length=32) {j k:Nat} (hj:j < 8) (hk:k < 8):
    zcG [.sl tp (uL p),.sl tq (uL q),.sl tg (pL ps),.int .i64 j,.int .i64 k]=some (.tup [.sl .own (uL (twoX p q (ps.map (·.2)) j k)),.sl .own (uL (twoY p q (ps.map (·.2)) j k))]):=by
  rw [zrP,zcX,zcX,zc0]
  have hm:(ps.map fun x=>(zbX x.1 x.2,x.2)).map (·.2)=ps.map (·.2):=by rw [List.map_map]; rfl
  have hlen:(ps.map fun x=>(zbX x.1 x.2,x.2)).length=ps.length:=by simp
  have hs':∀ x∈(ps.map fun x=>(zbX x.1 x.2,x.2)),x.2.length=32:=by intro x hx; obtain ⟨y,hy,rfl⟩:=List.mem_map.1 hx; exact hs y hy
  rw [←hm]
  rw [←hlen] at h1 h8
  generalize (ps.map fun x=>(zbX x.1 x.2,x.2))=rs at*
  unfold zmD
  have hQ:=zA6 (n:=32) .lent (ps:=rs) (by omega) h1 (by omega) hs'
  have hP:=zA5 (n:=32) .lent (ps:=rs) (by omega) h1 (by omega) hs'
  have hr:Byt (inv8 (xor8 (pow8 j) (pow8 k))):=zxQ _
  have addl:∀ {a b:List Int},a.length≤32→(addL a b).length≤32:=by intro a b h; unfold addL; split<;>simp<;>omega
  have h2:(addL p (sumP 32 (rs.map (·.2)))).length≤32:=addl (by omega)
  have h3:(addL q (sumQ 32 (rs.map (·.2)))).length≤32:=addl (by omega)
  have h4:(addL (addL q (sumQ 32 (rs.map (·.2)))) ((addL p (sumP 32 (rs.map (·.2)))).map (mul8 · (pow8 k)))).length≤32:=addl h3
  simp (disch:=first | omega | assumption | (simp; done) | fail) [-List.all_eq_true,hQ,hP,zhv _ _ _ _ (show q.length < 100000 by omega),zhv _ _ _ _ (show p.length < 100000 by omega),zvT j (by omega),zvT k (by omega),zDl (znk _ _),
    ziB _ _ (show (addL p (sumP 32 (rs.map (·.2)))).length < 100000 by omega) (zib k).1 (zib k).2,zhv _ _ _ _ (show (addL q (sumQ 32 (rs.map (·.2)))).length < 100000 by omega),zhv _ _ _ _ (show (addL p (sumP 32 (rs.map (·.2)))).length < 100000 by omega),
    ziB _ _ (show (addL (addL q (sumQ 32 (rs.map (·.2)))) ((addL p (sumP 32 (rs.map (·.2)))).map (mul8 · (pow8 k)))).length < 100000 by omega) hr.1 hr.2]
  exact ⟨rfl,rfl⟩
end
end Wf

namespace Wf
open Go Go.RowKit Go.Proofs
set_option linter.unusedSimpArgs false
set_option linter.unusedVariables false
set_option maxHeartbeats 4000000
def solD:Option (List (List Int))→D
  | none=>.tup [.sl .own [],.bool false]
  | some o=>.tup [.sl .own (pL (fP o)),.bool true]
theorem pLs (ls:List (List Int)) (i:Nat) (l:List Int):(pL (fP ls)).set i (.sl .fresh (uL l))=pL (fP (ls.set i l)):=by rw [zpi,zFQ]
theorem zw2 {ls:List (List Int)} {i:Nat} (h:i < ls.length):(pL (fP ls))[i]? =some (.sl .fresh (uL (ls.getD i []))):=by
  have e:ls[i]? =some (ls.getD i []):=by rw [List.getD_eq_getElem?_getD,List.getElem?_eq_getElem h]; rfl
  exact zcB (zsU e)
theorem zCC (tp tq tg:Tag) (p q:List Int) {ps:List Part} (hn:ps.length < 100000):
    zbZ [.int .i64 32,.sl tp (uL p),.sl tq (uL q),.sl tg (pL ps)]=some (solD (zkf p q (ps.map (·.2)))):=by
  rw [zpy,zcX,zcX,zc0]
  have hm:(ps.map fun x=>(zbX x.1 x.2,x.2)).map (·.2)=ps.map (·.2):=by rw [List.map_map]; rfl
  have hlen:(ps.map fun x=>(zbX x.1 x.2,x.2)).length=ps.length:=by simp
  rw [←hm]
  rw [←hlen] at hn
  generalize (ps.map fun x=>(zbX x.1 x.2,x.2))=rs at*
  clear hm hlen ps
  unfold ziZ zkf
  have hmi:=znW .lent rs hn
  rw [zCB] at hmi
  have hpq:zbC [.sl .full [.sl .lent (uL p),.sl .lent (uL q)]]=some (.sl .own (intL ((zc8 [p,q]).map Int.ofNat))):=znW .full [(Tag.lent,p),(Tag.lent,q)] (by simp)
  have hfi:=erase_fits .lent rs hn 32
  have hfa:(rs.all fun x=>fitS 32 x.2)=(rs.map (·.2)).all (fitS 32):=by rw [List.all_map]; rfl
  rw [hfa] at hfi
  have hfpq:zb5 [.int .i64 32,.sl .full [.sl .lent (uL p),.sl .lent (uL q)]]=some (.bool ([p,q].all (fitS 32))):=erase_fits .full [(Tag.lent,p),(Tag.lent,q)] (by simp) 32
  have hfl:zbN [.int .i64 32,.sl .lent (pL rs)]=some (.sl .own (pL (fP (zco (rs.map (·.2)))))):=by
    have:=erase_filled 32 (by omega) .lent rs hn
    rw [zCA] at this
    exact this
  have hl:(rs.map (·.2)).length=rs.length:=by simp
  generalize hls:rs.map (·.2)=ls at*
  have hfill:(zco ls).length=rs.length:=by rw [zcL,hl]
  by_cases c1:rs.length < 1
  · rw [if_pos (.inl (by omega))]
    simp (disch:=first | omega | assumption | (simp; done) | fail) [-List.all_eq_true,hmi,c1,solD]
  by_cases c2:8 < rs.length
  · rw [if_pos (.inr (.inl (by omega)))]
    simp (disch:=first | omega | assumption | (simp; done) | fail) [-List.all_eq_true,hmi,c1,c2,solD]
  cases c3:ls.all (fitS 32)
  · rw [if_pos (.inr (.inr (.inl rfl)))]
    simp (disch:=first | omega | assumption | (simp; done) | fail) [-List.all_eq_true,hmi,c1,c2,hfi,c3,solD]
  cases c4:[p,q].all (fitS 32)
  · rw [if_pos (.inr (.inr (.inr rfl)))]
    simp (disch:=first | omega | assumption | (simp; done) | fail) [-List.all_eq_true,-List.all_cons,hmi,c1,c2,hfi,c3,hfpq,c4,solD]
  rw [if_neg (by rintro (e | e | e | e)<;>first | omega | cases e)]
  have hml:(zc8 ls).length≤8:=by
    have:(zc8 ls).length≤ls.length:=by unfold zc8; exact Nat.le_trans (List.length_filter_le _ _) (by simp)
    omega
  have hml2:=ztO p q
  have hml3:(zc8 [p,q]).length≤2:=by rw [hml2]; split<;>split<;>omega
  by_cases c5:2 < (zc8 ls).length+(zc8 [p,q]).length
  · rw [if_pos c5]
    simp (disch:=first | omega | assumption | (simp; done) | fail) [-List.all_eq_true,-List.all_cons,hmi,c1,c2,hfi,c3,hfpq,c4,hpq,zgr,zao,solD]
  rw [if_neg c5]
  rcases hmm:zc8 ls with _ | ⟨j,_ | ⟨k,_ | ⟨m,t⟩⟩⟩
  · rw [hmm] at c5 hmi
    simp (disch:=first | omega | assumption | (simp; done) | fail) [-List.all_eq_true,-List.all_cons,hmi,c1,c2,hfi,c3,hfpq,c4,hpq,zgr,zao,solD,hfl,zf6]
  · have hj:=zd9.1 (show j∈zc8 ls by rw [hmm]; simp)
    rw [hmm] at c5 hmi
    have hi1:intL [(j:Int)]=[.int .i64 j]:=rfl
    have c6:¬ 2 < 1+((zc8 [p,q]).length:Int):=by simp at c5; omega
    have hg:=zw2 (ls:=zco ls) (i:=j) (by omega)
    dsimp only
    by_cases hp:0 < p.length
    · rw [if_pos hp]
      have hP:=zA5 (n:=32) .lent (ps:=fP (zco ls)) (by omega) (by simp; omega) (by simp; omega) (by intro x hx; obtain ⟨l,hl,rfl⟩:=List.mem_map.1 hx; unfold zco at hl; obtain ⟨y,_,rfl⟩:=List.mem_map.1 hl; exact zic 32 y)
      rw [zsT] at hP
      have hpl:p.length=32:=by
        simp [fitS] at c4
        rcases c4.1 with e | e
        · rw [e] at hp; cases hp
        · omega
      simp (disch:=first | omega | assumption | (simp; done) | fail) [-List.all_eq_true,-List.all_cons,hmi,c1,c2,hfi,c3,hfpq,c4,hpq,zgr,hi1,zao,solD,hfl,hP,hp,zhv,zaj hg,pLs,zf6,hfill,c6,D.isAgg]
    · rw [if_neg hp]
      have hq:q.length=32:=by
        have hp0:p=[]:=by cases p; rfl; simp at hp
        have hq0:¬ q=[]:=by intro e; rw [hml2,if_pos hp0,if_pos e] at c5; simp at c5
        simp [fitS] at c4
        rcases c4.2 with e | e
        · exact absurd e hq0
        · omega
      have hQ:=by_q (ps:=fP (zco ls)) (by simp; omega) (by simp; omega) (by intro x hx; obtain ⟨l,hl,rfl⟩:=List.mem_map.1 hx; unfold zco at hl; obtain ⟨y,_,rfl⟩:=List.mem_map.1 hl; exact zic 32 y) .lent .lent hq (k:=j) (by omega)
      rw [zsT] at hQ
      simp (disch:=first | omega | assumption | (simp; done) | fail) [-List.all_eq_true,-List.all_cons,hmi,c1,c2,hfi,c3,hfpq,c4,hpq,zgr,hi1,zao,solD,hfl,hQ,hp,zaj hg,pLs,zf6,hfill,c6,D.isAgg]
  · have hj:=zd9.1 (show j∈zc8 ls by rw [hmm]; simp)
    have hk:=zd9.1 (show k∈zc8 ls by rw [hmm]; simp)
    have hjk:j < k:=by have:=zmi ls; rw [hmm] at this; simpa using this
    rw [hmm] at c5 hmi
    have hi1:intL [(j:Int),(k:Int)]=[.int .i64 j,.int .i64 k]:=rfl
    have c6:¬ 2 < 2+((zc8 [p,q]).length:Int):=by simp at c5; simp [c5]
    have hp0:¬ p=[]:=by intro e; rw [hml2,if_pos e] at c5; simp at c5
    have hq0:¬ q=[]:=by intro e; rw [hml2,if_pos e] at c5; simp at c5
    have hpl:p.length=32∧q.length=32:=by
      simp [fitS] at c4
      exact ⟨by rcases c4.1 with e | e; exact absurd e hp0; omega,by rcases c4.2 with e | e; exact absurd e hq0; omega⟩
    have hT:=zFS (ps:=fP (zco ls)) (by simp; omega) (by simp; omega) (by intro x hx; obtain ⟨l,hl,rfl⟩:=List.mem_map.1 hx; unfold zco at hl; obtain ⟨y,_,rfl⟩:=List.mem_map.1 hl; exact zic 32 y) .lent .lent .lent hpl.1 hpl.2 (j:=j) (k:=k) (by omega) (by omega)
    rw [zsT] at hT
    have hg:=zw2 (ls:=zco ls) (i:=j) (by omega)
    have hg2:=zw2 (ls:=(zco ls).set j (twoX p q (zco ls) j k)) (i:=k) (by simp; omega)
    dsimp only
    simp (disch:=first | omega | assumption | (simp; done) | fail) [-List.all_eq_true,-List.all_cons,hmi,c1,c2,hfi,c3,hfpq,c4,hpq,zgr,hi1,zao,solD,hfl,hT,zaj hg,zaj hg2,pLs,zf6,hfill,c6,D.isAgg]
  · rw [hmm] at c5; simp at c5; omega
end Wf

namespace Wf
open Go Go.RowKit Go.Proofs
set_option linter.unusedSimpArgs false
set_option linter.unusedVariables false
def zoQ (b:Int) (k:Nat) (s:Int×Int):Int×Int:=
  (if IntKind.i64.wrap (s.1*2) > 255 then bits .xor .i64 (IntKind.i64.wrap (s.1*2)) 285 else IntKind.i64.wrap (s.1*2),
   if bits .and .u8 (b.fdiv (2 ^ min k 8)) 1=1 then bits .xor .i64 s.2 s.1 else s.2)
def zen (a b:Int):Nat→Int×Int
  | 0=>(IntKind.i64.wrap a,0)
  | k+1=>zoQ b k (zen a b k)
def zeO (a b:Int):Int:=IntKind.u8.wrap (zen a b 8).2
theorem zBb (a b:Int):zaN [.int .u8 a,.int .u8 b]=some (.int .u8 (zeO a b)):=by
  rw [zlM]
  unfold zfA
  rw [zaO]
  refine zb6 (fun k=>((b,(zen a b k).1,(zen a b k).2,(k:Int),PUnit.unit),PUnit.unit)) 8 (by omega) ?_ ?_
  · intro again k hk
    dsimp only
    have hd:decide ((k:Int) < 8)=true:=by simp; omega
    rw [hd,za0,zaO,zB6 (by omega) (by omega),zaa (by omega),zaO,zaO,Int.toNat_natCast]
    have hs:zen a b (k+1)=zoQ b k (zen a b k):=rfl
    have hk1:IntKind.i64.wrap ((k:Int)+1)=((k+1:Nat):Int):=by rw [zao (by omega) (by omega)]; rfl
    rw [hs]
    unfold zoQ
    by_cases hb:bits .and .u8 (b.fdiv (2 ^ min k 8)) 1=1
    · have hb':(bits .and .u8 (b.fdiv (2 ^ min k 8)) 1 == 1)=true:=by simp [hb]
      rw [hb',za0,zaO,zaO,if_pos hb]
      by_cases hx:IntKind.i64.wrap ((zen a b k).1*2) > 255
      · have hx':decide (IntKind.i64.wrap ((zen a b k).1*2) > 255)=true:=by simp [hx]
        rw [hx',za0,zaO,zaO,hk1,if_pos hx]
      · have hx':decide (IntKind.i64.wrap ((zen a b k).1*2) > 255)=false:=by simp; omega
        rw [hx',zas,zaO,hk1,if_neg hx]
    · have hb':(bits .and .u8 (b.fdiv (2 ^ min k 8)) 1 == 1)=false:=by simp [hb]
      rw [hb',zas,zaO,if_neg hb]
      by_cases hx:IntKind.i64.wrap ((zen a b k).1*2) > 255
      · have hx':decide (IntKind.i64.wrap ((zen a b k).1*2) > 255)=true:=by simp [hx]
        rw [hx',za0,zaO,zaO,hk1,if_pos hx]
      · have hx':decide (IntKind.i64.wrap ((zen a b k).1*2) > 255)=false:=by simp; omega
        rw [hx',zas,zaO,hk1,if_neg hx]
  · intro again
    dsimp only
    have hd:decide (((8:Nat):Int) < 8)=false:=by simp
    rw [hd,zas,zaO]
    rfl
def zdZ:Nat→Int
  | 0=>1
  | k+1=>zeO (zdZ k) 2
theorem zEx (k:Nat) (hk:k < 255):zbA [.int .i64 k]=some (.int .u8 (zdZ k)):=by
  rw [zlO]
  unfold zfB
  have e1:Int.tmod (k:Int) 255=k:=by rw [Int.tmod_eq_emod_of_nonneg (by omega),Int.emod_eq_of_lt (by omega) (by omega)]
  have hd:decide ((k:Int) < 0)=false:=by simp
  rw [zaO,e1,hd,zas]
  let st:Nat→(Int×Int×PUnit)×PUnit:=fun j=>(((k:Int) - (j:Int),zdZ j,PUnit.unit),PUnit.unit)
  have hst:st 0=(((k:Int),1,PUnit.unit),PUnit.unit):=by simp [st,zdZ]
  rw [←hst]
  refine zb6 st k (by omega) ?_ ?_
  · intro again j hj
    dsimp only [st]
    have hd:decide ((k:Int) - (j:Int) > 0)=true:=by simp; omega
    rw [hd,za0,zBb,zac,zbj,zaO,zao (by omega) (by omega)]
    have:(k:Int) - (j:Int) - 1=(k:Int) - ((j+1:Nat):Int):=by omega
    rw [this]
    rfl
  · intro again
    dsimp only [st]
    have hd:decide ((k:Int) - (k:Int) > 0)=false:=by simp
    rw [hd,zas]
def mixL (f:Int→Int→Int) (acc p:List Int) (j:Nat):List Int:=(List.zipWith f acc p).take j++acc.drop j
theorem zx8 {f:Int→Int→Int} {acc p:List Int} (h:p.length=acc.length) {j:Nat} (hj:j≤acc.length):(mixL f acc p j).length=acc.length:=by
  unfold mixL; simp [h]; omega
theorem zx9 {f:Int→Int→Int} {acc p:List Int} (h:p.length=acc.length) {j:Nat} (hj:j < acc.length):(mixL f acc p j)[j]? =some acc[j]:=by
  unfold mixL
  rw [List.getElem?_append_right (by simp; omega)]
  simp [h]
  rw [show j - min j acc.length=0 by omega]
  simp [hj]
theorem zya {f:Int→Int→Int} {acc p:List Int} (h:p.length=acc.length) {j:Nat} (hj:j < acc.length):(mixL f acc p j).set j (f acc[j] (p[j]'(by omega)))=mixL f acc p (j+1):=by
  unfold mixL
  have hl:((List.zipWith f acc p).take j).length=j:=by simp [h]; omega
  rw [List.set_append_right _ _ (by omega),hl,Nat.sub_self,List.take_add_one,List.drop_eq_getElem_cons hj,List.set_cons_zero]
  simp [List.getElem?_zipWith,hj,h]
theorem zyb {f:Int→Int→Int} {acc p:List Int} (h:p.length=acc.length):mixL f acc p acc.length=List.zipWith f acc p:=by
  unfold mixL
  rw [List.drop_of_length_le (Nat.le_refl _),List.append_nil,List.take_of_length_le (by simp; omega)]
theorem zvU (f:Int→Int→Int) (acc p:List Int):mixL f acc p 0=acc:=by simp [mixL]
def sumR (F:Nat→Int→Int) (n:Nat) (ls:List (List Int)):Nat→List Int
  | 0=>List.replicate n 0
  | k+1=>List.zipWith (fun a x=>xor8 a (F k x)) (sumR F n ls k) (ls.getD k [])
theorem zuo {F:Nat→Int→Int} {n:Nat} {ls:List (List Int)} (h:∀ l∈ls,l.length=n):∀ {k:Nat},k≤ls.length→(sumR F n ls k).length=n
  | 0,_=>by simp [sumR]
  | k+1,hk=>by
    have e:ls.getD k []=ls[k]:=by simp [List.getD_eq_getElem?_getD,List.getElem?_eq_getElem (show k < ls.length by omega)]
    simp only [sumR,List.length_zipWith,e,zuo h (show k≤ls.length by omega),h _ (List.getElem_mem (show k < ls.length by omega))]
    omega
def refP (n:Nat) (ls:List (List Int)):List Int:=sumR (fun _ x=>x) n ls ls.length
def refQ (n:Nat) (ls:List (List Int)):List Int:=sumR (fun k x=>zeO x (zdZ k)) n ls ls.length
theorem zvV (tg:Tag) {ps:List Part} {n:Nat} (h0:0 < ps.length) (h1:ps.length < 100000) (h:∀ x∈ps,x.2.length=n):zaH [.sl tg (pL ps)]=some (.bool true):=by
  rw [zjM,zc0]
  have hlen:(ps.map fun x=>(zbX x.1 x.2,x.2)).length=ps.length:=by simp
  have hl':∀ x∈(ps.map fun x=>(zbX x.1 x.2,x.2)),x.2.length=n:=by intro x hx; obtain ⟨y,hy,rfl⟩:=List.mem_map.1 hx; exact h y hy
  rw [←hlen] at h0 h1
  generalize (ps.map fun x=>(zbX x.1 x.2,x.2))=rs at*
  unfold zeF
  obtain ⟨x0,hx0⟩:∃ x,rs[0]? =some x:=⟨_,List.getElem?_eq_getElem h0⟩
  refine zb6 (fun k=>((pL rs,pL rs,((pL rs).length:Int),(k:Int),PUnit.unit),PUnit.unit)) rs.length h1 ?_ ?_
  · intro again k hk
    dsimp only
    obtain ⟨x,hx⟩:∃ x,rs[k]? =some x:=⟨_,List.getElem?_eq_getElem hk⟩
    have hd:decide ((k:Int) < ((pL rs).length:Int))=true:=by simp; omega
    have hb:(((uL x.2).length:Int) != ((uL x0.2).length:Int))=false:=by simp [hl' x (List.mem_of_getElem? hx),hl' x0 (List.mem_of_getElem? hx0)]
    rw [hd,za0,zaa (by omega),zaj (by simpa using zcB hx),zev,zaj (zcB hx0),zev,hb,zas,zaO,zao (by omega) (by omega)]
    rfl
  · intro again
    have hd:decide ((rs.length:Int) < ((pL rs).length:Int))=false:=by simp
    have hd2:decide (((pL rs).length:Int) > 0)=true:=by simp; omega
    dsimp only
    rw [hd,zas,hd2]
theorem zGA (tg:Tag) {ps:List Part} {n:Nat} (hn:n < 100000) (h0:0 < ps.length) (h1:ps.length < 100000) (h:∀ x∈ps,x.2.length=n):zbK [.sl tg (pL ps)]=some (.sl .own (uL (refP n (ps.map (·.2))))):=by
  rw [znP,zc0]
  have hlen:(ps.map fun x=>(zbX x.1 x.2,x.2)).length=ps.length:=by simp
  have hm:(ps.map fun x=>(zbX x.1 x.2,x.2)).map (·.2)=ps.map (·.2):=by rw [List.map_map]; rfl
  have hl':∀ x∈(ps.map fun x=>(zbX x.1 x.2,x.2)),x.2.length=n:=by intro x hx; obtain ⟨y,hy,rfl⟩:=List.mem_map.1 hx; exact h y hy
  rw [←hlen] at h0 h1
  rw [←hm]
  generalize (ps.map fun x=>(zbX x.1 x.2,x.2))=rs at*
  clear hm hlen h ps
  unfold zg6
  obtain ⟨x0,hx0⟩:∃ x,rs[0]? =some x:=⟨_,List.getElem?_eq_getElem h0⟩
  have hls:∀ l∈rs.map (·.2),l.length=n:=by intro l hl; obtain ⟨y,hy,rfl⟩:=List.mem_map.1 hl; exact hl' y hy
  rw [zvV .lent h0 h1 hl',zac,zch,Bool.not_true,zas,zaj (zcB hx0),zev,zaa (by rfl),zdE,hl' x0 (List.mem_of_getElem? hx0),zaa (by omega),zaa (by omega),zaa (by simp),Int.toNat_natCast,zqO]
  let st:Nat→(List D×List D×Int×Int×PUnit)×PUnit:=fun k=>((uL (sumR (fun _ x=>x) n (rs.map (·.2)) k),pL rs,((pL rs).length:Int),(k:Int),PUnit.unit),PUnit.unit)
  have hst:st 0=((uL (List.replicate n 0),pL rs,((pL rs).length:Int),0,PUnit.unit),PUnit.unit):=rfl
  rw [←hst]
  refine zb6 st rs.length h1 ?_ ?_
  · intro again k hk
    dsimp only [st]
    obtain ⟨x,hx⟩:∃ x,rs[k]? =some x:=⟨_,List.getElem?_eq_getElem hk⟩
    have hxl:=hl' x (List.mem_of_getElem? hx)
    have hd:decide ((k:Int) < ((pL rs).length:Int))=true:=by simp; omega
    have hsl:=zuo (F:=fun _ x=>x) hls (k:=k) (by simp; omega)
    have hxe:x.2.length=(sumR (fun _ x=>x) n (rs.map (·.2)) k).length:=by omega
    rw [hd,za0,zaa (by omega),zaj (by simpa using zcB hx),zev,zaa (by rfl)]
    let s2:Nat→(List D×List D×Int×Int×(Tag×List D)×Int×Int×PUnit)×PUnit:=fun j=>((uL (mixL (fun a x=>xor8 a x) (sumR (fun _ x=>x) n (rs.map (·.2)) k) x.2 j),pL rs,((pL rs).length:Int),(k:Int),(x.1,uL x.2),((uL x.2).length:Int),(j:Int),PUnit.unit),PUnit.unit)
    have hs2:s2 0=((uL (sumR (fun _ x=>x) n (rs.map (·.2)) k),pL rs,((pL rs).length:Int),(k:Int),(x.1,uL x.2),((uL x.2).length:Int),0,PUnit.unit),PUnit.unit):=by simp only [s2,zvU]; rfl
    rw [←hs2]
    refine zb6 s2 x.2.length (by omega) ?_ ?_
    · intro again2 j hj
      dsimp only [s2]
      have hd:decide ((j:Int) < ((uL x.2).length:Int))=true:=by simp; omega
      have g1:x.2[j]? =some x.2[j]:=List.getElem?_eq_getElem hj
      have g2:=zx9 (f:=fun a x=>xor8 a x) hxe (j:=j) (by omega)
      have ml:=zx8 (f:=fun a x=>xor8 a x) hxe (j:=j) (by omega)
      have ms:=zya (f:=fun a x=>xor8 a x) hxe (j:=j) (by omega)
      rw [hd,za0,zaa (by omega),zaj (by simpa using zji g1),zbj,zaa (by omega),zaa (by rw [zdE,ml]; omega),zaj (by simpa using zji g2),zbj,zaO,zaa (by omega),zaa (by rw [zdE,ml]; omega),zaj (by simpa using zji g2),zaa (by rfl),zaO,
        zao (by omega) (by omega),zaa (by simp),Nat.zero_add,zAC,show Int.toNat (j:Int)=j from rfl,ms]
      rfl
    · intro again2
      dsimp only [s2]
      have hd:decide ((x.2.length:Int) < ((uL x.2).length:Int))=false:=by simp
      have me:mixL (fun a x=>xor8 a x) (sumR (fun _ x=>x) n (rs.map (·.2)) k) x.2 x.2.length=sumR (fun _ x=>x) n (rs.map (·.2)) (k+1):=by
        rw [hxe,zyb hxe]
        have:(rs.map (·.2)).getD k []=x.2:=by simp [List.getD_eq_getElem?_getD,hx]
        simp only [sumR,this]
      rw [hd,zas,zaO,zao (by omega) (by omega),zaa (by rfl),me]
      rfl
  · intro again
    dsimp only [st]
    have hd:decide ((rs.length:Int) < ((pL rs).length:Int))=false:=by simp
    rw [hd,zas,zaa (by rfl),zaa (zgP _)]
    simp [refP]
theorem zGB (tg:Tag) {ps:List Part} {n:Nat} (hn:n < 100000) (h0:0 < ps.length) (h1:ps.length < 255) (h:∀ x∈ps,x.2.length=n):zbL [.sl tg (pL ps)]=some (.sl .own (uL (refQ n (ps.map (·.2))))):=by
  rw [znR,zc0]
  have hlen:(ps.map fun x=>(zbX x.1 x.2,x.2)).length=ps.length:=by simp
  have hm:(ps.map fun x=>(zbX x.1 x.2,x.2)).map (·.2)=ps.map (·.2):=by rw [List.map_map]; rfl
  have hl':∀ x∈(ps.map fun x=>(zbX x.1 x.2,x.2)),x.2.length=n:=by intro x hx; obtain ⟨y,hy,rfl⟩:=List.mem_map.1 hx; exact h y hy
  rw [←hlen] at h0 h1
  rw [←hm]
  generalize (ps.map fun x=>(zbX x.1 x.2,x.2))=rs at*
  clear hm hlen h ps
  unfold zg9
  obtain ⟨x0,hx0⟩:∃ x,rs[0]? =some x:=⟨_,List.getElem?_eq_getElem h0⟩
  have hls:∀ l∈rs.map (·.2),l.length=n:=by intro l hl; obtain ⟨y,hy,rfl⟩:=List.mem_map.1 hl; exact hl' y hy
  rw [zvV .lent h0 (by omega) hl',zac,zch,Bool.not_true,zas,zaj (zcB hx0),zev,zaa (by rfl),zdE,hl' x0 (List.mem_of_getElem? hx0),zaa (by omega),zaa (by omega),zaa (by simp),Int.toNat_natCast,zqO]
  let st:Nat→(List D×List D×Int×Int×PUnit)×PUnit:=fun k=>((uL (sumR (fun k x=>zeO x (zdZ k)) n (rs.map (·.2)) k),pL rs,((pL rs).length:Int),(k:Int),PUnit.unit),PUnit.unit)
  have hst:st 0=((uL (List.replicate n 0),pL rs,((pL rs).length:Int),0,PUnit.unit),PUnit.unit):=rfl
  rw [←hst]
  refine zb6 st rs.length (by omega) ?_ ?_
  · intro again k hk
    dsimp only [st]
    obtain ⟨x,hx⟩:∃ x,rs[k]? =some x:=⟨_,List.getElem?_eq_getElem hk⟩
    have hxl:=hl' x (List.mem_of_getElem? hx)
    have hd:decide ((k:Int) < ((pL rs).length:Int))=true:=by simp; omega
    have hsl:=zuo (F:=fun k x=>zeO x (zdZ k)) hls (k:=k) (by simp; omega)
    have hxe:x.2.length=(sumR (fun k x=>zeO x (zdZ k)) n (rs.map (·.2)) k).length:=by omega
    rw [hd,za0,zaa (by omega),zaj (by simpa using zcB hx),zev,zEx k (by omega),zac,zbj,zaa (by rfl)]
    let s2:Nat→(List D×Int×List D×Int×Int×(Tag×List D)×Int×Int×PUnit)×PUnit:=fun j=>((uL (mixL (fun a x=>xor8 a (zeO x (zdZ k))) (sumR (fun k x=>zeO x (zdZ k)) n (rs.map (·.2)) k) x.2 j),zdZ k,pL rs,((pL rs).length:Int),(k:Int),(x.1,uL x.2),((uL x.2).length:Int),(j:Int),PUnit.unit),PUnit.unit)
    have hs2:s2 0=((uL (sumR (fun k x=>zeO x (zdZ k)) n (rs.map (·.2)) k),zdZ k,pL rs,((pL rs).length:Int),(k:Int),(x.1,uL x.2),((uL x.2).length:Int),0,PUnit.unit),PUnit.unit):=by simp only [s2,zvU]; rfl
    rw [←hs2]
    refine zb6 s2 x.2.length (by omega) ?_ ?_
    · intro again2 j hj
      dsimp only [s2]
      have hd:decide ((j:Int) < ((uL x.2).length:Int))=true:=by simp; omega
      have g1:x.2[j]? =some x.2[j]:=List.getElem?_eq_getElem hj
      have g2:=zx9 (f:=fun a x=>xor8 a (zeO x (zdZ k))) hxe (j:=j) (by omega)
      have ml:=zx8 (f:=fun a x=>xor8 a (zeO x (zdZ k))) hxe (j:=j) (by omega)
      have ms:=zya (f:=fun a x=>xor8 a (zeO x (zdZ k))) hxe (j:=j) (by omega)
      rw [hd,za0,zaa (by omega),zaj (by simpa using zji g1),zbj,zaa (by omega),zaa (by rw [zdE,ml]; omega),zaj (by simpa using zji g2),zbj,zBb,zac,zbj,zaO,zaa (by omega),zaa (by rw [zdE,ml]; omega),zaj (by simpa using zji g2),zaa (by rfl),zaO,
        zao (by omega) (by omega),zaa (by simp),Nat.zero_add,zAC,show Int.toNat (j:Int)=j from rfl,ms]
      rfl
    · intro again2
      dsimp only [s2]
      have hd:decide ((x.2.length:Int) < ((uL x.2).length:Int))=false:=by simp
      have me:mixL (fun a x=>xor8 a (zeO x (zdZ k))) (sumR (fun k x=>zeO x (zdZ k)) n (rs.map (·.2)) k) x.2 x.2.length=sumR (fun k x=>zeO x (zdZ k)) n (rs.map (·.2)) (k+1):=by
        rw [hxe,zyb hxe]
        have:(rs.map (·.2)).getD k []=x.2:=by simp [List.getD_eq_getElem?_getD,hx]
        simp only [sumR,this]
      rw [hd,zas,zaO,zao (by omega) (by omega),zaa (by rfl),me]
      rfl
  · intro again
    dsimp only [st]
    have hd:decide ((rs.length:Int) < ((pL rs).length:Int))=false:=by simp
    rw [hd,zas,zaa (by rfl),zaa (zgP _)]
    simp [refQ]
def zl3 (n:Int) (i:Nat):Int:=IntKind.u8.wrap (IntKind.i64.wrap (n+IntKind.i64.wrap ((i:Int)*bits .or .i64 (IntKind.i64.wrap (n.tdiv 7)) 1)))
def secN (n:Int):List Int:=if n % 11=10 then List.replicate 32 0 else (List.range 32).map (zl3 n)
theorem zCD (n:Int):Sec (secN n):=by
  unfold secN
  split
  · exact zkc
  · refine ⟨by simp,fun x h=>?_⟩
    obtain ⟨i,_,rfl⟩:=List.mem_map.1 h
    exact zqL _
theorem zro (n:Int):za9 [.int .i64 n]=some (.sl .own (uL (secN n))):=by
  rw [zjJ]
  unfold zeE
  rw [zmQ n 11 (by omega) (by omega),zac,zbj]
  unfold secN
  by_cases h:n % 11=10
  · rw [if_pos h]; simp [h]; rfl
  · rw [if_neg h]
    have hb:(n % 11 == 10)=false:=by simp [h]
    rw [hb,zas]
    have:=zb6 (R:=D) (α:=(Int×List D×Int×Int×PUnit)×PUnit)
      (fun k=>((n,uL ((List.range 32).map fun i=>if i < k then zl3 n i else 0),32,(k:Int),PUnit.unit),PUnit.unit)) 32 (by omega)
      (B:=?B) (r:=some (.sl .own (uL ((List.range 32).map (zl3 n))))) ?_ ?_
    · exact this
    · intro again k hk
      dsimp only
      have hd:decide ((k:Int) < 32)=true:=by simp; omega
      have hg:((List.range 32).map fun i=>if i < k then zl3 n i else 0)[k]? =some 0:=by simp [hk]
      have hv:zl3 n k=IntKind.u8.wrap (IntKind.i64.wrap (n+IntKind.i64.wrap ((k:Int)*bits .or .i64 (IntKind.i64.wrap (n.tdiv 7)) 1))):=rfl
      rw [hd,za0,zaO,zaO,zaO,zaO,zaO,←hv,zaa (by omega),zaa (by simp; omega),zaj (by simpa using zji hg)]
      rw [zaa (by rfl),zaO,zao (n:=(k:Int)+1) (by omega) (by omega),zaa (by simp)]
      have:(uL ((List.range 32).map fun i=>if i < k then zl3 n i else 0)).set (0+Int.toNat (k:Int)) (.int .u8 (zl3 n k))=uL ((List.range 32).map fun i=>if i < k+1 then zl3 n i else 0):=by
        rw [zAC]
        congr 1
        apply List.ext_getElem?
        intro j
        rw [List.getElem?_set]
        by_cases hj:j < 32
        · by_cases hjk:k=j
          · subst hjk; simp [hj]
          · have:(0+Int.toNat (k:Int))≠j:=by simp; exact hjk
            rw [if_neg this]
            simp [hj]
            by_cases h1:j < k
            · rw [if_pos h1,if_pos (by omega)]
            · rw [if_neg h1,if_neg (by omega)]
        · simp [hj]
          omega
      rw [this]
      rfl
    · intro again
      have e:((List.range 32).map fun i=>if i < 32 then zl3 n i else 0)=(List.range 32).map (zl3 n):=by
        apply List.map_congr_left; intro i hi; rw [if_pos (List.mem_range.1 hi)]
      dsimp only
      rw [e]
      simp
def secL (l:List Int) (n:Nat):List (List Int):=(List.range n).map fun (i:Nat)=>secN (l.getD i (3*(i:Int)))
theorem zyc (l:List Int) (n:Nat):∀ x∈secL l n,Sec x:=by
  intro x hx; obtain ⟨i,_,rfl⟩:=List.mem_map.1 hx; exact zCD _
@[simp] theorem zGe (l:List Int) (n:Nat):(secL l n).length=n:=by simp [secL]
theorem zEy (ls:List (List Int)) (l:List Int):pL (fP ls)++[.sl .fresh (uL l)]=pL (fP (ls++[l])):=by simp [pL,fP]
theorem zvW (tg:Tag) (l:List Int) {n:Nat} (hn:n < 100000):zba [.sl tg (intL l),.int .i64 n]=some (.sl .own (pL (fP (secL l n)))):=by
  rw [zi8,zqI]
  unfold zej
  let st:Nat→(List D×Int×List D×Int×PUnit)×PUnit:=fun k=>((intL l,(n:Int),pL (fP (secL l k)),(k:Int),PUnit.unit),PUnit.unit)
  show zcd _ (st 0)=_
  refine zb6 st n hn ?_ ?_
  · intro again k hk
    dsimp only [st]
    have hd:decide ((k:Int) < (n:Int))=true:=by simp; omega
    have hs:secL l (k+1)=secL l k++[secN (l.getD k (3*(k:Int)))]:=by unfold secL; rw [List.range_succ,List.map_append]; rfl
    rw [hd,za0,zaO,zgr,hs,←zEy]
    by_cases hkl:k < l.length
    · have hd2:decide ((k:Int) < (l.length:Int))=true:=by simp; omega
      have hg:l.getD k (3*(k:Int))=l[k]:=by simp [List.getD_eq_getElem?_getD,hkl]
      rw [hd2,za0,zaa (by omega),zaj (by simpa using zB4 hkl),zbj,zro,zac,zbI,zaa (by omega),zaa (by simp; omega),zaa (by rfl),zaO,zao (n:=(k:Int)+1) (by omega) (by omega),zdg,zaa (by simp),hg]
      rfl
    · have hd2:decide ((k:Int) < (l.length:Int))=false:=by simp; omega
      have hg:l.getD k (3*(k:Int))=3*(k:Int):=by simp [List.getD_eq_getElem?_getD,List.getElem?_eq_none (show l.length≤k by omega)]
      rw [hd2,zas,zao (n:=3*(k:Int)) (by omega) (by omega),zro,zac,zbI,zaa (by omega),zaa (by simp; omega),zaa (by rfl),zaO,zao (n:=(k:Int)+1) (by omega) (by omega),zdg,zaa (by simp),hg]
      rfl
  · intro again
    dsimp only [st]
    have hd:decide ((n:Int) < (n:Int))=false:=by simp
    rw [hd,zas,zaa (by rfl),zaa (zf6 _)]
def zlk (b:Nat) (k:Nat) (s:Nat×Nat):Nat×Nat:=
  (if 255 < s.1*2 then (s.1*2) ^^^ 285 else s.1*2,if b / 2 ^ k % 2=1 then s.2 ^^^ s.1 else s.2)
def zcC (a b:Nat):Nat→Nat×Nat
  | 0=>(a,0)
  | k+1=>zlk b k (zcC a b k)
theorem zEz {m n k:Nat} (hm:m < 2 ^ k) (hn:n < 2 ^ k):m ^^^ n < 2 ^ k:=Nat.xor_lt_two_pow hm hn
theorem zFT (m n:Nat) (hm:m < 1024) (hn:n < 1024):bits .xor .i64 (m:Int) (n:Int)=((m ^^^ n:Nat):Int):=by
  have h:m ^^^ n < 2 ^ 10:=zEz (by omega) (by omega)
  have e:((BitVec.ofInt 64 (m:Int)) ^^^ (BitVec.ofInt 64 (n:Int))).toNat=m ^^^ n:=by
    rw [BitVec.toNat_xor]
    simp [Nat.mod_eq_of_lt (show m < 18446744073709551616 by omega),Nat.mod_eq_of_lt (show n < 18446744073709551616 by omega)]
  show IntKind.i64.wrap (((BitVec.ofInt 64 (m:Int)) ^^^ (BitVec.ofInt 64 (n:Int))).toNat:Int)=_
  rw [e]
  exact zao (by omega) (by omega)
theorem zrp {a b:Nat} (ha:a < 256) (hb:b < 256):∀ k,k≤8→(zen a b k).1=((zcC a b k).1:Int)∧(zen a b k).2=((zcC a b k).2:Int)∧(zcC a b k).1 < 256∧(zcC a b k).2 < 256
  | 0,_=>⟨zao (by omega) (by omega),rfl,ha,by show 0 < 256; omega⟩
  | k+1,hk=>by
    obtain ⟨h1,h2,h3,h4⟩:=zrp ha hb k (by omega)
    have w:IntKind.i64.wrap (((zcC a b k).1:Int)*2)=(((zcC a b k).1*2:Nat):Int):=by rw [zao (by omega) (by omega)]; omega
    have hx:(zcC a b k).2 ^^^ (zcC a b k).1 < 256:=znj h4 h3
    have hbk:bits .and .u8 ((b:Int).fdiv (2 ^ min k 8)) 1=((b / 2 ^ k % 2:Nat):Int):=by
      have e:((b:Int).fdiv (2 ^ min k 8))=((b / 2 ^ k:Nat):Int):=by
        rw [show min k 8=k by omega,Int.fdiv_eq_ediv_of_nonneg _ (by exact_mod_cast Nat.zero_le (2 ^ k))]
        simp
      rw [e]
      exact and1 _ (Nat.lt_of_le_of_lt (Nat.div_le_self _ _) hb)
    have hd:∀ x < 256,255 < x*2→(x*2) ^^^ 285 < 256:=by decide+kernel
    show (zoQ b k (zen a b k)).1=((zlk b k (zcC a b k)).1:Int)∧(zoQ b k (zen a b k)).2=((zlk b k (zcC a b k)).2:Int)∧(zlk b k (zcC a b k)).1 < 256∧(zlk b k (zcC a b k)).2 < 256
    unfold zoQ zlk
    rw [h1,h2,hbk,w,zFT _ _ (by omega) (by omega)]
    have hx2:=zFT ((zcC a b k).1*2) 285 (by omega) (by omega)
    refine ⟨?_,?_,?_,?_⟩
    · dsimp only
      split
      · rw [if_pos (by omega)]; exact hx2
      · rw [if_neg (by omega)]
    · dsimp only
      split
      · rw [if_pos (by omega)]
      · rw [if_neg (by omega)]
    · dsimp only
      split
      · exact hd _ h3 (by assumption)
      · omega
    · dsimp only
      split
      · exact hx
      · exact h4
theorem zsV {a b:Nat} (ha:a < 256) (hb:b < 256):zeO a b=((zcC a b 8).2:Int)∧(zcC a b 8).2 < 256:=by
  obtain ⟨_,h2,_,h4⟩:=zrp ha hb 8 (Nat.le_refl _)
  unfold zeO
  rw [h2]
  exact ⟨zwx (by omega) (by omega),h4⟩
def zoR:Nat→Nat
  | 0=>1
  | k+1=>(zcC (zoR k) 2 8).2
theorem zsW:∀ k,zdZ k=(zoR k:Int)∧zoR k < 256
  | 0=>⟨rfl,by decide⟩
  | k+1=>by
    obtain ⟨h1,h2⟩:=zsW k
    show zeO (zdZ k) 2=((zcC (zoR k) 2 8).2:Int)∧(zcC (zoR k) 2 8).2 < 256
    have:=zsV h2 (show 2 < 256 by omega)
    rw [show ((2:Nat):Int)=2 from rfl] at this
    rw [h1]; exact this
theorem zvX:∀ k < 7,∀ x < 256,(zcC x (zoR k) 8).2=mN x (powN k):=by decide+kernel
theorem zw3 {x:Int} (h:Byt x) {k:Nat} (hk:k < 7):zeO x (zdZ k)=mul8 x (pow8 k):=by
  obtain ⟨m,hm,rfl⟩:=zew h
  obtain ⟨h1,h2⟩:=zsW k
  have e1:=(zsV hm h2).1
  have e2:=(zd8 hm (zhA k)).1
  have e3:=zvX k hk m hm
  rw [h1,zld,e1,e2,e3]
theorem zBc {F:Nat→Int→Int} {f:Nat→Int} {ls:List (List Int)} (h:∀ l∈ls,Sec l) (hF:∀ k x,k < ls.length→Byt x→F k x=mul8 x (f k)):∀ {k:Nat},k≤ls.length→sumR F 32 ls k=sumK f 32 ls k
  | 0,_=>rfl
  | k+1,hk=>by
    have hs:=h _ (zdq (show k < ls.length by omega))
    show List.zipWith (fun a x=>xor8 a (F k x)) (sumR F 32 ls k) (ls.getD k [])=List.zipWith xor8 (sumK f 32 ls k) ((ls.getD k []).map (mul8 · (f k)))
    rw [zBc h hF (by omega),List.zipWith_map_right]
    apply List.ext_getElem?
    intro i
    rw [List.getElem?_zipWith,List.getElem?_zipWith]
    cases e1:(sumK f 32 ls k)[i]? with
    | none=>rfl
    | some a=>
      cases e2:(ls.getD k [])[i]? with
      | none=>rfl
      | some x=>simp only; rw [hF k x (by omega) (hs.byt x (List.mem_of_getElem? e2))]
theorem zCE {ls:List (List Int)} (h:∀ l∈ls,Sec l):refP 32 ls=sumP 32 ls:=by
  have:=zBc (F:=fun _ x=>x) (f:=fun _=>1) h (fun _ x _ hx=>(zpK hx).symm) (Nat.le_refl ls.length)
  exact this
theorem zCF {ls:List (List Int)} (h:∀ l∈ls,Sec l) (h7:ls.length≤7):refQ 32 ls=sumQ 32 ls:=by
  have:=zBc (F:=fun k x=>zeO x (zdZ k)) (f:=pow8) h (fun k x hk hx=>zw3 hx (by omega)) (Nat.le_refl ls.length)
  exact this
end Wf

namespace Wf
open Go Go.RowKit Go.Proofs
set_option linter.unusedSimpArgs false
set_option linter.unusedVariables false
set_option maxHeartbeats 4000000
section
variable (g:Geo) (row k n:Int)
theorem zmR:zcy [.agg [.int .i64 g.l,.int .i64 g.d,.int .i64 g.c],.int .i64 row]=some (.bool (zcF g row)):=by
  rw [zwN]
  unfold zt0
  rw [show D.agg [.int .i64 g.l,.int .i64 g.d,.int .i64 g.c]=gD g.l g.d g.c from rfl,zfC,zac]
  show asI IntKind.i64 (.int .i64 _) _=_
  rw [zbj]
  unfold zcF
  cases h:g.ok
  · have:zdF g.l g.d g.c=false:=h
    simp [this]
  · have:zdF g.l g.d g.c=true:=h
    by_cases h0:0≤row
    · simp [this,h0]
    · simp [this,h0]
theorem zll:zaJ [.agg [.int .i64 g.l,.int .i64 g.d,.int .i64 g.c],.int .i64 row]=some (.tup [.int .i64 (parP g row).1,.int .i64 (parP g row).2]):=zvO g row
theorem zrq:zbm [.agg [.int .i64 g.l,.int .i64 g.d,.int .i64 g.c],.int .i64 row,.int .i64 k]=some (.int .i64 (zdG g row k)):=zy3 g row k
theorem zlm:zaS [.agg [.int .i64 g.l,.int .i64 g.d,.int .i64 g.c]]=some (.int .i64 g.width):=zvN g
theorem zBd:zbh [.agg [.int .i64 g.l,.int .i64 g.d,.int .i64 g.c],.int .i64 row,.int .i64 k]=some (.int .i64 (zdG g row k)):=zCt g row k
theorem zyd:zaA [.agg [.int .i64 g.l,.int .i64 g.d,.int .i64 g.c],.int .i64 row]=some (.tup [.int .i64 (parP g row).1,.int .i64 (parP g row).2]):=zAS g row
theorem zrr:zaq [.agg [.int .i64 g.l,.int .i64 g.d,.int .i64 g.c],.int .i64 row]=some (.bool (zcF g row)):=zuk g row
theorem zoS:zaf [.agg [.int .i64 g.l,.int .i64 g.d,.int .i64 g.c]]=some (.int .i64 g.width):=zsR g
end
def zha (g:Geo) (row:Int) (ls:List (List Int)):Nat→List Part
  | 0=>List.replicate g.d.toNat (Tag.nil,[])
  | k+1=>(zha g row ls k).set (zdG g row (k:Int)).toNat (Tag.fresh,ls.getD k [])
def zy8 (g:Geo) (row:Int) (ls:List (List Int)) (p q:List Int):List Part:=
  if (parP g row).2 < 0 then (zha g row ls g.width.toNat).set (parP g row).1.toNat (Tag.fresh,p)
  else ((zha g row ls g.width.toNat).set (parP g row).1.toNat (Tag.fresh,p)).set (parP g row).2.toNat (Tag.fresh,q)
theorem zfb (g:Geo) (row:Int) (ls:List (List Int)) (k:Nat):(zha g row ls k).length=g.d.toNat:=by
  induction k with
  | zero=>simp [zha]
  | succ k ih=>simp [zha,ih]
theorem zsX (g:Geo) (row:Int) (ls:List (List Int)) (k:Nat):∀ x∈zha g row ls k,Part.free x=true:=by
  induction k with
  | zero=>intro x hx; rw [(List.mem_replicate.1 hx).2]; rfl
  | succ k ih=>
    intro x hx
    rcases List.mem_or_eq_of_mem_set hx with hx | hx
    · exact ih x hx
    · rw [hx]; rfl
theorem zpS {ps:List Part} (h:∀ x∈ps,Part.free x=true) (i:Nat) (l:List Int):∀ x∈ps.set i (Tag.fresh,l),Part.free x=true:=by
  intro x hx
  rcases List.mem_or_eq_of_mem_set hx with hx | hx
  · exact h x hx
  · rw [hx]; rfl
theorem zjf (t:Tag) (l:List D):D.isAgg (.sl t l)=false:=rfl
theorem zye (n:Nat):pL (List.replicate n (Tag.nil,[]))=List.replicate n (D.sl .nil []):=by simp [pL,uL]
section
variable {g:Geo} {row:Int} (h:zcF g row=true)
include h
theorem zyf {ls:List (List Int)} {d:Int} (d0:0≤d) (d1:d < g.d) (h1:d≠(parP g row).1) (h2:d≠(parP g row).2):∀ k:Nat,(k:Int)≤g.width→
    (zha g row ls k)[d.toNat]? =some (if zfp g d row < k then (Tag.fresh,ls.getD (zfp g d row).toNat []) else (Tag.nil,[]))
  | 0,_=>by
    obtain ⟨c0,c1,c2⟩:=zli h d0 d1 h1 h2
    unfold zha
    rw [List.getElem?_replicate,if_pos (by omega),if_neg (by omega)]
  | k+1,hk=>by
    obtain ⟨c0,c1,c2⟩:=zli h d0 d1 h1 h2
    have hdi:=zmo h (k:=(k:Int)) (by omega) (by omega)
    have ih:=zyf (ls:=ls) d0 d1 h1 h2 k (by omega)
    unfold zha
    rw [List.getElem?_set]
    by_cases e:zfp g d row=k
    · have e2:zdG g row k=d:=by rw [←e]; exact c2
      rw [if_pos (by rw [e2]),if_pos (by rw [zfb,e2]; omega),if_pos (by omega)]
      congr 3
      rw [e]; rfl
    · have e2:zdG g row k≠d:=fun e2=>e (zvz h c0 c1 (by omega) (by omega) (by rw [c2,e2]))
      rw [if_neg (by omega),ih]
      by_cases hlt:zfp g d row < k
      · rw [if_pos hlt,if_pos (by omega)]
      · rw [if_neg hlt,if_neg (by omega)]
theorem zsY (ls:List (List Int)) (p q:List Int) (hp:p=sumP 32 ls) (hq:q=sumQ 32 ls∨g.l=5):zy8 g row ls p q=fP (zcN g row ls):=by
  obtain ⟨hk,r0,r1⟩:=zbM.1 h
  have hw:=zdd hk
  obtain ⟨p0,p1,p2⟩:=zqX h
  have hpq:=zDh h
  have hlen:(zy8 g row ls p q).length=g.d.toNat:=by unfold zy8; split<;>simp [zfb]
  apply List.ext_getElem?
  intro i
  by_cases hi:i < g.d.toNat
  · have hr:(fP (zcN g row ls))[i]? =some (Tag.fresh,atR g row ls i):=zsU (zid (by omega))
    rw [hr]
    have hbase:∀ d:Int,0≤d→d < g.d→d≠(parP g row).1→d≠(parP g row).2→(zha g row ls g.width.toNat)[d.toNat]? =some (Tag.fresh,atR g row ls d):=by
      intro d d0 d1 n1 n2
      obtain ⟨c0,c1,c2⟩:=zli h d0 d1 n1 n2
      rw [zyf h d0 d1 n1 n2 _ (by omega),if_pos (by omega)]
      unfold atR
      rw [if_neg n1,if_neg n2]
    unfold zy8
    by_cases e1:(i:Int)=(parP g row).1
    · have ha:atR g row ls i=p:=by rw [e1,at_p h,hp]
      rw [ha]
      split
      · rw [List.getElem?_set,if_pos (by omega),if_pos (by rw [zfb]; omega)]
      · rw [List.getElem?_set,if_neg (by omega),List.getElem?_set,if_pos (by omega),if_pos (by rw [zfb]; omega)]
    · by_cases e2:(i:Int)=(parP g row).2
      · have ha:atR g row ls i=sumQ 32 ls:=by rw [e2,at_q h]
        have h6:¬ (parP g row).2 < 0:=by omega
        rw [ha,if_neg h6,List.getElem?_set,if_pos (by omega),if_pos (by rw [List.length_set,zfb]; omega)]
        rcases hq with hq | hq
        · rw [hq]
        · rcases p2 with ⟨e,_⟩ | ⟨_,_,e⟩<;>omega
      · have:=hbase i (by omega) (by omega) e1 e2
        rw [Int.toNat_natCast] at this
        split
        · rw [List.getElem?_set,if_neg (by omega),this]
        · rw [List.getElem?_set,if_neg (by omega),List.getElem?_set,if_neg (by omega),this]
  · rw [List.getElem?_eq_none (by omega),List.getElem?_eq_none (by simp [zlj]; omega)]
end
theorem zCG (t:Tag) (l:List Int):zap [.sl t (uL l)]=some (.bool (!decide (l.length=32))):=by
  rw [znC,zcX]
  unfold zgZ
  simp only [zdE]
  congr 2
  by_cases h:l.length=32
  · simp [h]
  · simp [h]; omega
theorem zoT (tg:Tag) (ps:List Part) (hn:ps.length < 100000):
    ∃ r,zai [.sl tg (pL ps),.fn ID.row_sectors_1 [] []]=some r∧∃ i:Int,r=.int .i64 i∧decide (i≥0)= !(ps.all fun x=>decide (x.2.length=32)):=by
  rw [zdH,zc0]
  have hm:(ps.all fun x=>decide (x.2.length=32))=((ps.map fun x=>(zbX x.1 x.2,x.2)).all fun x=>decide (x.2.length=32)):=by rw [List.all_map]; rfl
  have hlen:(ps.map fun x=>(zbX x.1 x.2,x.2)).length=ps.length:=by simp
  rw [hm]
  rw [←hlen] at hn
  generalize (ps.map fun x=>(zbX x.1 x.2,x.2))=rs at*
  unfold zb2
  refine zxM (fun a=>(rs.length:Nat) - a.1.2.2.1.toNat) (fun r=>∃ i:Int,r=D.int .i64 i∧decide (i≥0)= !(rs.all fun x=>decide (x.2.length=32)))
    (fun a=>∃ k:Nat,k≤rs.length∧((rs.take k).all fun x=>decide (x.2.length=32))=true∧a=((pL rs,(rs.length:Int),(k:Int),PUnit.unit),PUnit.unit)) ?_ ⟨0,by omega,by simp,by rw [zvS]; rfl⟩ (by simp; omega)
  rintro again _ ⟨k,hk,he,rfl⟩ hag
  dsimp only
  by_cases hkm:k < rs.length
  · obtain ⟨x,hx⟩:∃ x,rs[k]? =some x:=⟨_,List.getElem?_eq_getElem hkm⟩
    have hd:decide ((k:Int) < (rs.length:Int))=true:=by simp; omega
    rw [hd,za0,zaa (by omega),zaj (by simpa using zcB hx),zev,zCG,zac,zch]
    by_cases hf:x.2.length=32
    · simp only [hf,decide_true,Bool.not_true,zas,zaO]
      rw [zao (by omega) (by omega)]
      refine hag _ ⟨k+1,by omega,?_,rfl⟩ (by simp; omega)
      rw [List.take_add_one,hx,List.all_append,he]
      simp [hf]
    · simp only [hf,decide_false,Bool.not_false,za0]
      refine ⟨_,rfl,_,rfl,?_⟩
      have:(rs.all fun x=>decide (x.2.length=32))=false:=by
        rw [List.all_eq_false]
        exact ⟨x,List.mem_of_getElem? hx,by simp [hf]⟩
      rw [this]
      simp
  · have hd:decide ((k:Int) < (rs.length:Int))=false:=by simp; omega
    rw [hd,zas]
    refine ⟨_,rfl,_,rfl,?_⟩
    rw [List.take_of_length_le (by omega)] at he
    rw [he]
    rfl
theorem row_sectors (tg:Tag) (ps:List Part) (hn:ps.length < 100000):zb8 [.sl tg (pL ps)]=some (.bool (ps.all fun x=>decide (x.2.length=32))):=by
  rw [zpC,zc0]
  have hm:(ps.all fun x=>decide (x.2.length=32))=((ps.map fun x=>(zbX x.1 x.2,x.2)).all fun x=>decide (x.2.length=32)):=by rw [List.all_map]; rfl
  have hlen:(ps.map fun x=>(zbX x.1 x.2,x.2)).length=ps.length:=by simp
  rw [hm]
  rw [←hlen] at hn
  generalize (ps.map fun x=>(zbX x.1 x.2,x.2))=rs at*
  unfold zi1
  have:zae [.sl .lent (pL rs),.fn ID.row_sectors_1 [] []]=some (.bool (!(rs.all fun x=>decide (x.2.length=32)))):=by
    rw [zdr,zc0]
    have hm:(rs.all fun x=>decide (x.2.length=32))=((rs.map fun x=>(zbX x.1 x.2,x.2)).all fun x=>decide (x.2.length=32)):=by rw [List.all_map]; rfl
    have hlen:(rs.map fun x=>(zbX x.1 x.2,x.2)).length=rs.length:=by simp
    rw [hm]
    rw [←hlen] at hn
    generalize (rs.map fun x=>(zbX x.1 x.2,x.2))=qs at*
    unfold zbQ
    obtain ⟨r,h1,i,rfl,h2⟩:=zoT .lent qs hn
    rw [h1,zac,zbj,h2]
  rw [this,zac,zch,Bool.not_not]
theorem zyg (g:Geo) (row:Int) (tg:Tag) {ps:List Part} (hn:ps.length < 100000):
    zbT [.agg [.int .i64 g.l,.int .i64 g.d,.int .i64 g.c],.int .i64 row,.sl tg (pL ps)]=some (solD (ztV g row (ps.map (·.2)))):=by
  rw [zui,zc0]
  have hlen:(ps.map fun x=>(zbX x.1 x.2,x.2)).length=ps.length:=by simp
  have hm:(ps.map fun x=>(zbX x.1 x.2,x.2)).map (·.2)=ps.map (·.2):=by rw [List.map_map]; rfl
  rw [←hlen] at hn
  rw [←hm]
  generalize (ps.map fun x=>(zbX x.1 x.2,x.2))=rs at*
  clear hm hlen ps
  unfold zoE ztV
  cases h:zcF g row
  · simp [zmR,h,solD]
  by_cases hl:(rs.length:Int)=g.width
  · have hall:((rs.map (·.2)).all fun x=>decide (x.length=32))=(rs.all fun x=>decide (x.2.length=32)):=by rw [List.all_map]; rfl
    rw [hall]
    cases hs:(rs.all fun x=>decide (x.2.length=32))
    · simp [zmR,h,solD,zlm,hl,row_sectors _ _ hn,hs]
    · have hl':∀ x∈rs,x.2.length=32:=fun x hx=>by rw [List.all_eq_true] at hs; simpa using hs x hx
      rw [if_pos ⟨rfl,by simp [hl],rfl⟩]
      obtain ⟨hk,r0,r1⟩:=zbM.1 h
      have hw:=zdd hk
      have hdd:=ok_d hk
      have hb:((((pL rs).length:Nat):Int) != g.width)=false:=by simp [hl]
      have hrl:rs.length=g.width.toNat:=by omega
      rw [zmR,zac,zch,h,Bool.not_true,zas,zlm,zac,zbj,hb,zas,row_sectors _ _ hn,zac,zch,hs,Bool.not_true,zas,zaa (by omega),zaa (by rfl),zaa (by omega),zaa (by omega),zaa (by simp)]
      let st:Nat→(Int×List D×(Int×Int×Int×PUnit)×List D×List D×Int×Int×PUnit)×PUnit:=fun k=>((row,pL rs,(g.l,g.d,g.c,PUnit.unit),pL (zha g row (rs.map (·.2)) k),pL rs,((pL rs).length:Int),(k:Int),PUnit.unit),PUnit.unit)
      have hst:st 0=((row,pL rs,(g.l,g.d,g.c,PUnit.unit),List.replicate g.d.toNat (D.sl .nil []),pL rs,((pL rs).length:Int),0,PUnit.unit),PUnit.unit):=by
        simp only [st,zha,zye]; rfl
      rw [←hst]
      refine zcM st rs.length (by omega) ?_ ?_
      · intro again k hk'
        dsimp only [st]
        obtain ⟨x,hx⟩:∃ x,rs[k]? =some x:=⟨_,List.getElem?_eq_getElem hk'⟩
        have hxs:=hl' x (List.mem_of_getElem? hx)
        have hxe:rs[k]=x:=by rw [List.getElem?_eq_getElem hk'] at hx; exact Option.some.inj hx
        have hdi:=zmo h (k:=(k:Int)) (by omega) (by omega)
        have hfl:=zfb g row (rs.map (·.2)) k
        obtain ⟨y,hy⟩:∃ y,(zha g row (rs.map (·.2)) k)[(zdG g row (k:Int)).toNat]? =some y:=⟨_,List.getElem?_eq_getElem (by omega)⟩
        have hgd:(rs.map (·.2)).getD k []=x.2:=by simp [List.getD_eq_getElem?_getD,hx]
        have hgx:(pL rs)[k]? =some (.sl x.1 (uL x.2)):=zcB hx
        have hlt:(zdG g row (k:Int)).toNat < g.d.toNat:=by omega
        simp (disch:=first | omega | assumption | (simp; done) | fail) [-List.all_eq_true,hk',zaj hgx,zrq,zrm (show x.2.length≤4294967296 by omega),hdi.1,hfl,hlt,zaj (zcB hy),zjf,zao,zpi,zha]
        rw [hxe]
      · intro again
        dsimp only [st]
        obtain ⟨p0,p1,p2⟩:=zqX h
        have hfl:=zfb g row (rs.map (·.2)) rs.length
        obtain ⟨y,hy⟩:∃ y,(zha g row (rs.map (·.2)) rs.length)[(parP g row).1.toNat]? =some y:=⟨_,List.getElem?_eq_getElem (by omega)⟩
        have hrp:=zA5 (n:=32) .lent (ps:=rs) (by omega) (by omega) (by omega) hl'
        have hrq:=zA6 (n:=32) .lent (ps:=rs) (by omega) (by omega) (by omega) hl'
        have hff:=zsY h (rs.map (·.2)) (sumP 32 (rs.map (·.2))) (sumQ 32 (rs.map (·.2))) rfl (.inl rfl)
        have hfree:=zpS (zsX g row (rs.map (·.2)) rs.length) (parP g row).1.toNat (sumP 32 (rs.map (·.2)))
        have hfree2:=zpS hfree (parP g row).2.toNat (sumQ 32 (rs.map (·.2)))
        have hlt:(parP g row).1.toNat < g.d.toNat:=by omega
        unfold zy8 at hff
        rw [←hrl] at hff
        rcases p2 with ⟨p2,_⟩ | ⟨q0,q1,_⟩
        · rw [if_pos (by omega)] at hff
          have hq:¬ (0≤(parP g row).2):=by omega
          simp (disch:=first | omega | assumption | (simp; done) | fail) [-List.all_eq_true,zll,hrp,p0,hfl,hlt,zaj (zcB hy),zjf,hq,zpi,zkW hfree,solD,hff,zf6]
        · rw [if_neg (by omega)] at hff
          have hlt2:(parP g row).2.toNat < g.d.toNat:=by omega
          obtain ⟨z,hz⟩:∃ z,((zha g row (rs.map (·.2)) rs.length).set (parP g row).1.toNat (Tag.fresh,sumP 32 (rs.map (·.2))))[(parP g row).2.toNat]? =some z:=⟨_,List.getElem?_eq_getElem (by simp [hfl]; omega)⟩
          simp (disch:=first | omega | assumption | (simp; done) | fail) [-List.all_eq_true,zll,hrp,hrq,p0,q0,hfl,hlt,hlt2,zaj (zcB hy),zaj (zcB hz),zjf,zpi,zkW hfree,zkW hfree2,solD,hff,zf6]
  · have h2:¬ (true=true∧(((rs.map (·.2)).length:Nat):Int)=g.width∧((rs.map (·.2)).all fun x=>decide (x.length=32))=true):=by rintro ⟨_,e,_⟩; simp at e; exact hl e
    rw [if_neg h2]
    simp [zmR,h,solD,zlm,hl]
end Wf

namespace Wf
open Go Go.RowKit Go.Proofs
set_option linter.unusedSimpArgs false
set_option linter.unusedVariables false
set_option maxHeartbeats 4000000
def zfF (g:Geo) (row:Int) (rs:List Part) (k:Nat):List Part:=(List.range k).map fun (j:Nat)=>rs.getD (zdG g row (j:Int)).toNat (.nil,[])
theorem zvY (g:Geo) (row:Int) (rs:List Part):(zfF g row rs g.width.toNat).map (·.2)=zf1 g row (rs.map (·.2)):=by
  unfold zfF zf1
  rw [List.map_map]
  apply List.map_congr_left
  intro j _
  simp [List.getD_eq_getElem?_getD]
  cases rs[(zdG g row (j:Int)).toNat]? <;>rfl
theorem zup (g:Geo) (row:Int) (rs:List Part) {k:Nat} {x:Part} (h:rs[(zdG g row (k:Int)).toNat]? =some x):zfF g row rs (k+1)=zfF g row rs k++[x]:=by
  unfold zfF
  rw [List.range_succ,List.map_append]
  simp [List.getD_eq_getElem?_getD,h]
theorem zrs {R:Type} (a b:D) (f:LfT [.any,.any]→Option R):zaw [.any,.any] [a,b] f=f (a,b,()):=by rw [zeK,zeK,zfM]
theorem zCH (g:Geo) (row:Int) (tg:Tag) {ps:List Part} (hn:ps.length < 100000):
    zc2 [.agg [.int .i64 g.l,.int .i64 g.d,.int .i64 g.c],.int .i64 row,.sl tg (pL ps)]=some (solD (zrB g row (ps.map (·.2)))):=by
  rw [zue,zc0]
  have hm:(ps.map fun x=>(zbX x.1 x.2,x.2)).map (·.2)=ps.map (·.2):=by rw [List.map_map]; rfl
  have hlen:(ps.map fun x=>(zbX x.1 x.2,x.2)).length=ps.length:=by simp
  rw [←hm]
  rw [←hlen] at hn
  generalize (ps.map fun x=>(zbX x.1 x.2,x.2))=rs at*
  clear hm hlen ps
  unfold zoB zrB
  cases h:zcF g row
  · simp [zmR,h,solD]
  by_cases hl:(rs.length:Int)=g.d
  · rw [if_pos ⟨rfl,by simp [hl]⟩]
    have hk:=(zbM.1 h).1
    have hw:=zdd hk
    have hdd:=ok_d hk
    have hb:((((pL rs).length:Nat):Int) != g.d)=false:=by simp [hl]
    rw [zmR,zac,zch,h,Bool.not_true,zas,hb,zas,zlm,zac,zbj]
    let st:Nat→(Int×List D×(Int×Int×Int×PUnit)×List D×Int×Int×PUnit)×PUnit:=fun k=>((row,pL rs,(g.l,g.d,g.c,PUnit.unit),pL (zfF g row rs k),g.width,(k:Int),PUnit.unit),PUnit.unit)
    have hst:st 0=((row,pL rs,(g.l,g.d,g.c,PUnit.unit),[],g.width,0,PUnit.unit),PUnit.unit):=rfl
    rw [←hst]
    refine zcM st g.width.toNat (by omega) ?_ ?_
    · intro again k hk'
      dsimp only [st]
      have hd:(k:Int) < g.width:=by omega
      have hdi:=zmo h (k:=(k:Int)) (by omega) (by omega)
      obtain ⟨x,hx⟩:∃ x,rs[(zdG g row (k:Int)).toNat]? =some x:=⟨_,List.getElem?_eq_getElem (by omega)⟩
      have hpl:(zfF g row rs k).length=k:=by simp [zfF]
      simp (disch:=first | omega | assumption | (simp; done) | fail) [-List.all_eq_true,hd,zrq,hdi.1,zaj (zcB hx),hpl,zao,zA4,zup g row rs hx]
    · intro again
      dsimp only [st]
      have hd:¬ ((g.width.toNat:Nat):Int) < g.width:=by omega
      obtain ⟨p0,p1,p2⟩:=zqX h
      obtain ⟨xp,hxp⟩:∃ x,rs[(parP g row).1.toNat]? =some x:=⟨_,List.getElem?_eq_getElem (by omega)⟩
      have hpo:pOf g row (rs.map (·.2))=xp.2:=by unfold pOf; simp [List.getD_eq_getElem?_getD,hxp]
      have hrl:(zfF g row rs g.width.toNat).length < 100000:=by simp [zfF]; omega
      have hsol:=fun tq q=>zCC xp.1 tq .lent xp.2 q hrl
      rw [zvY] at hsol
      rw [hpo]
      rcases p2 with ⟨p2,_⟩ | ⟨q0,q1,_⟩
      · have hqo:qOf g row (rs.map (·.2))=[]:=by unfold qOf; rw [if_pos (by omega)]
        have hq:(parP g row).2 < 0:=by omega
        have hs:=hsol .nil []
        rw [show uL []=([]:List D) from rfl] at hs
        rw [hqo]
        simp (disch:=first | omega | assumption | (simp; done) | fail) [-List.all_eq_true,zoP,hd,zll,hq,p0,zaj (zcB hxp),hs]
        cases zkf xp.2 [] (zf1 g row (rs.map (·.2)))<;>simp [-List.all_eq_true,solD,zf6]
      · obtain ⟨xq,hxq⟩:∃ x,rs[(parP g row).2.toNat]? =some x:=⟨_,List.getElem?_eq_getElem (by omega)⟩
        have hqo:qOf g row (rs.map (·.2))=xq.2:=by unfold qOf; rw [if_neg (by omega)]; simp [List.getD_eq_getElem?_getD,hxq]
        have hq:¬ (parP g row).2 < 0:=by omega
        rw [hqo]
        simp (disch:=first | omega | assumption | (simp; done) | fail) [-List.all_eq_true,zoP,hd,zll,hq,p0,q0,zaj (zcB hxp),zaj (zcB hxq),hsol]
        cases zkf xp.2 xq.2 (zf1 g row (rs.map (·.2)))<;>simp [-List.all_eq_true,solD,zf6]
  · have h2:¬ (true=true∧(((rs.map (·.2)).length:Nat):Int)=g.d):=by rintro ⟨_,e⟩; simp at e; exact hl e
    rw [if_neg h2]
    simp [zmR,h,solD,hl]
theorem zCI (g:Geo) (row:Int) (tg:Tag) {ps:List Part} (hn:ps.length < 100000) (hs:∀ x∈ps,Sec x.2):
    zbp [.agg [.int .i64 g.l,.int .i64 g.d,.int .i64 g.c],.int .i64 row,.sl tg (pL ps)]=some (solD (ztV g row (ps.map (·.2)))):=by
  rw [zkO,zc0]
  have hlen:(ps.map fun x=>(zbX x.1 x.2,x.2)).length=ps.length:=by simp
  have hm:(ps.map fun x=>(zbX x.1 x.2,x.2)).map (·.2)=ps.map (·.2):=by rw [List.map_map]; rfl
  have hs':∀ x∈(ps.map fun x=>(zbX x.1 x.2,x.2)),Sec x.2:=by intro x hx; obtain ⟨y,hy,rfl⟩:=List.mem_map.1 hx; exact hs y hy
  rw [←hlen] at hn
  rw [←hm]
  generalize (ps.map fun x=>(zbX x.1 x.2,x.2))=rs at*
  clear hm hlen hs ps
  unfold ze5 ztV
  have hsl:∀ x∈rs.map (·.2),Sec x:=by intro x hx; obtain ⟨y,hy,rfl⟩:=List.mem_map.1 hx; exact hs' y hy
  have hl':∀ x∈rs,x.2.length=32:=fun x hx=>(hs' x hx).len
  have hall:((rs.map (·.2)).all fun x=>decide (x.length=32))=true:=by rw [List.all_eq_true]; intro x hx; simpa using (hsl x hx).len
  cases h:zcF g row
  · simp [zrr,h,solD]
  by_cases hl:(rs.length:Int)=g.width
  · rw [if_pos ⟨rfl,by simp [hl],hall⟩]
    obtain ⟨hk,r0,r1⟩:=zbM.1 h
    have hw:=zdd hk
    have hdd:=ok_d hk
    have hb:((((pL rs).length:Nat):Int) != g.width)=false:=by simp [hl]
    have hrl:rs.length=g.width.toNat:=by omega
    rw [zrr,zac,zch,h,Bool.not_true,zas,zoS,zac,zbj,hb,zas,zaa (by omega),zaa (by rfl),zaa (by omega),zaa (by omega),zaa (by simp)]
    let st:Nat→(Int×List D×(Int×Int×Int×PUnit)×List D×List D×Int×Int×PUnit)×PUnit:=fun k=>((row,pL rs,(g.l,g.d,g.c,PUnit.unit),pL (zha g row (rs.map (·.2)) k),pL rs,((pL rs).length:Int),(k:Int),PUnit.unit),PUnit.unit)
    have hst:st 0=((row,pL rs,(g.l,g.d,g.c,PUnit.unit),List.replicate g.d.toNat (D.sl .nil []),pL rs,((pL rs).length:Int),0,PUnit.unit),PUnit.unit):=by
      simp only [st,zha,zye]; rfl
    rw [←hst]
    refine zcM st rs.length (by omega) ?_ ?_
    · intro again k hk'
      dsimp only [st]
      obtain ⟨x,hx⟩:∃ x,rs[k]? =some x:=⟨_,List.getElem?_eq_getElem hk'⟩
      have hxs:=hl' x (List.mem_of_getElem? hx)
      have hxe:rs[k]=x:=by rw [List.getElem?_eq_getElem hk'] at hx; exact Option.some.inj hx
      have hdi:=zmo h (k:=(k:Int)) (by omega) (by omega)
      have hfl:=zfb g row (rs.map (·.2)) k
      obtain ⟨y,hy⟩:∃ y,(zha g row (rs.map (·.2)) k)[(zdG g row (k:Int)).toNat]? =some y:=⟨_,List.getElem?_eq_getElem (by omega)⟩
      have hgd:(rs.map (·.2)).getD k []=x.2:=by simp [List.getD_eq_getElem?_getD,hx]
      have hgx:(pL rs)[k]? =some (.sl x.1 (uL x.2)):=zcB hx
      have hlt:(zdG g row (k:Int)).toNat < g.d.toNat:=by omega
      simp (disch:=first | omega | assumption | (simp; done) | fail) [-List.all_eq_true,hk',zaj hgx,zBd,hxs,hdi.1,hfl,hlt,zaj (zcB hy),zjf,zao,zpi,zha]
      rw [hxe]
    · intro again
      dsimp only [st]
      obtain ⟨p0,p1,p2⟩:=zqX h
      have hfl:=zfb g row (rs.map (·.2)) rs.length
      obtain ⟨y,hy⟩:∃ y,(zha g row (rs.map (·.2)) rs.length)[(parP g row).1.toNat]? =some y:=⟨_,List.getElem?_eq_getElem (by omega)⟩
      have hrp:=zGA (n:=32) .lent (ps:=rs) (by omega) (by omega) (by omega) hl'
      have hrq:=zGB (n:=32) .lent (ps:=rs) (by omega) (by omega) (by omega) hl'
      rw [zCE hsl] at hrp
      rw [zCF hsl (by simp; omega)] at hrq
      have hff:=zsY h (rs.map (·.2)) (sumP 32 (rs.map (·.2))) (sumQ 32 (rs.map (·.2))) rfl (.inl rfl)
      have hfree:=zpS (zsX g row (rs.map (·.2)) rs.length) (parP g row).1.toNat (sumP 32 (rs.map (·.2)))
      have hfree2:=zpS hfree (parP g row).2.toNat (sumQ 32 (rs.map (·.2)))
      have hlt:(parP g row).1.toNat < g.d.toNat:=by omega
      unfold zy8 at hff
      rw [←hrl] at hff
      rcases p2 with ⟨p2,_⟩ | ⟨q0,q1,_⟩
      · rw [if_pos (by omega)] at hff
        have hq:¬ (0≤(parP g row).2):=by omega
        simp (disch:=first | omega | assumption | (simp; done) | fail) [-List.all_eq_true,zyd,hrp,p0,hfl,hlt,zaj (zcB hy),zjf,hq,zpi,zkW hfree,solD,hff,zf6]
      · rw [if_neg (by omega)] at hff
        have hlt2:(parP g row).2.toNat < g.d.toNat:=by omega
        obtain ⟨z,hz⟩:∃ z,((zha g row (rs.map (·.2)) rs.length).set (parP g row).1.toNat (Tag.fresh,sumP 32 (rs.map (·.2))))[(parP g row).2.toNat]? =some z:=⟨_,List.getElem?_eq_getElem (by simp [hfl]; omega)⟩
        simp (disch:=first | omega | assumption | (simp; done) | fail) [-List.all_eq_true,zyd,hrp,hrq,p0,q0,hfl,hlt,hlt2,zaj (zcB hy),zaj (zcB hz),zjf,zpi,zkW hfree,zkW hfree2,solD,hff,zf6]
  · have h2:¬ (true=true∧(((rs.map (·.2)).length:Nat):Int)=g.width∧((rs.map (·.2)).all fun x=>decide (x.length=32))=true):=by rintro ⟨_,e,_⟩; simp at e; exact hl e
    rw [if_neg h2]
    simp [zrr,h,solD,zoS,hl]
end Wf

namespace Wf
open Go Go.RowKit Go.Proofs
set_option linter.unusedSimpArgs false
set_option linter.unusedVariables false
set_option maxHeartbeats 4000000
theorem ziC (live:List Bool):D.lentL (live.map D.bool)=live.map D.bool:=by
  induction live with
  | nil=>rfl
  | cons x l ih=>simp [ih]
theorem znX (acts:Nat→List Act):∀ (n k:Nat) (B:Ben),runE (fun k B=>runA (acts k) B) k n B=runA ((List.range' k n).flatMap acts) B
  | 0,k,B=>rfl
  | n+1,k,B=>by
    rw [List.range'_succ,List.flatMap_cons,zml]
    show (if (runA (acts k) B).1=0 then _ else _)=_
    rw [znX acts n (k+1)]
theorem zln (a:Act) (B:Ben):runA [a] B=B.act a:=by
  rw [zqU]
  by_cases h:(B.act a).1=0
  · rw [if_pos h]
    show (0,(B.act a).2)=B.act a
    rw [←h]
  · rw [if_neg h]
section
variable {B:Ben} {d a e:Int} {x:List Int}
theorem zrt {s:DS} (hd:B.is d=true) (hf:s.failed=(B.dk d).failed):(B.setD d s).failed e=B.failed e:=by
  unfold Ben.failed
  rw [zwI]
  cases he:B.is e
  · rfl
  · rw [zfo hd (zdR.1 he).1]
    split
    · rename_i q; subst q; rw [hf]
    · rfl
theorem zsZ (B:Ben) (d a:Int) (x:List Int):(B.write d a x).2.n=B.n∧∀ e,(B.write d a x).2.failed e=B.failed e:=by
  unfold Ben.write
  split
  · exact ⟨rfl,fun _=>rfl⟩
  · rename_i h0
    have hd:=(may0.1 (Classical.not_not.1 h0)).1
    split
    · exact ⟨rfl,fun _=>rfl⟩
    · split
      · exact ⟨rfl,fun _=>rfl⟩
      · exact ⟨by simp,fun e=>zrt (B:=(B.junk _).less) hd rfl⟩
theorem zy9 (hB:B.Ok) (d:Int):(B.flush d).2.n=B.n∧∀ e,(B.flush d).2.failed e=B.failed e:=by
  unfold Ben.flush
  split
  · exact ⟨rfl,fun _=>rfl⟩
  · rename_i h0
    have hd:=(may0.1 (Classical.not_not.1 h0)).1
    refine ⟨by simp,fun e=>zrt hd ?_⟩
    unfold DS.flush
    split
    · rfl
    · exact zlV (zju hB d).1
def Like (B B':Ben):Prop:=B'.n=B.n∧∀ e,B'.failed e=B.failed e
theorem Like.refl (B:Ben):Like B B:=⟨rfl,fun _=>rfl⟩
theorem Like.trans {A B C:Ben} (h1:Like A B) (h2:Like B C):Like A C:=⟨h2.1.trans h1.1,fun e=>(h2.2 e).trans (h1.2 e)⟩
theorem Like.up {B B':Ben} (h:Like B B') (live:List Bool) (e:Int):B'.up live e=B.up live e:=by unfold Ben.up; rw [h.1,h.2]
end
section
variable {T0 T1:Tb} {b:Nat} {idx:List Nat} {B:Ben}
theorem zvZ (h:At T0 T1 b idx B) (hw:B.w≤999000) (tg:Tag) (live:List Bool) (g:Geo) (r:Int) (tg2:Tag) {ps:List Part} (hn:ps.length < 100000) (hs:∀ x∈ps,Sec x.2):
    zhN [.h kB b 0,.sl tg (live.map D.bool),.agg [.int .i64 g.l,.int .i64 g.d,.int .i64 g.c],.int .i64 r,.sl tg2 (pL ps)] [P0 T0 b idx B,P1 T1 idx B]=
      some (Ans.mk (.int .i64 (B.sWrite live g r (ps.map (·.2))).1) [] [P0 T0 b idx (B.sWrite live g r (ps.map (·.2))).2,P1 T1 idx (B.sWrite live g r (ps.map (·.2))).2]):=by
  rw [zoM,ziC,zc0]
  have hlen:(ps.map fun x=>(zbX x.1 x.2,x.2)).length=ps.length:=by simp
  have hm:(ps.map fun x=>(zbX x.1 x.2,x.2)).map (·.2)=ps.map (·.2):=by rw [List.map_map]; rfl
  have hs':∀ x∈(ps.map fun x=>(zbX x.1 x.2,x.2)),Sec x.2:=by intro x hx; obtain ⟨y,hy,rfl⟩:=List.mem_map.1 hx; exact hs y hy
  rw [←hlen] at hn
  rw [←hm]
  generalize (ps.map fun x=>(zbX x.1 x.2,x.2))=rs at*
  clear hm hlen hs ps
  unfold zhO Ben.sWrite
  have hfill:=zyg g r .lent hn
  cases hf:ztV g r (rs.map (·.2)) with
  | none=>
    rw [hf] at hfill
    simp [hfill,solD]
  | some o=>
    have hf0:=hf
    unfold ztV at hf0
    split at hf0
    rotate_left
    · cases hf0
    rename_i hc
    obtain ⟨hr,hlw,hall⟩:=hc
    cases hf0
    have hR:Row g (rs.map (·.2)):=⟨hlw,by intro x hx; obtain ⟨y,hy,rfl⟩:=List.mem_map.1 hx; exact hs' y hy⟩
    generalize rs.map (·.2)=data at*
    rw [hf] at hfill
    obtain ⟨hk,r0,r1⟩:=zbM.1 hr
    have hdd:=ok_d hk
    rw [if_neg (by simp)]
    have hrl:=zlj g r data
    let acts:Nat→List Act:=fun d=>if B.up live d then [.w d (36+r) (atR g r data d)] else []
    have hacts:B.wActs live g r data=(List.range' 0 g.d.toNat).flatMap acts:=by unfold Ben.wActs; rw [List.range_eq_range']
    rw [hacts,←znX]
    let st:Nat→Ben→(Nat×List D×Int×List D×Int×Int×PUnit)×List (List D)×List (List D)×PUnit:=fun k B'=>((b,live.map D.bool,r,pL (fP (zcN g r data)),(g.d.toNat:Int),(k:Int),PUnit.unit),P0 T0 b idx B',P1 T1 idx B',PUnit.unit)
    have hst:st 0 B=((b,live.map D.bool,r,pL (fP (zcN g r data)),(g.d.toNat:Int),0,PUnit.unit),P0 T0 b idx B,P1 T1 idx B,PUnit.unit):=rfl
    simp (disch:=first | omega | assumption | (simp; done) | fail) only [hfill,solD,zac,zgO,zrs,zbI,zch,Bool.not_true,zas,zaa,Nat.zero_add,Nat.le_refl,zvS,zBa,hrl]
    rw [←hst]
    refine zqT (fun k B'=>runA (acts k) B') (fun k B'=>Nx k B B'∧Like B B') st (fun y=>some (Ans.mk (.int .i64 y.1) [] [P0 T0 b idx y.2,P1 T1 idx y.2])) g.d.toNat (by omega) ⟨.rfl' h.ok (by omega),.refl B⟩ ?_ ?_ ?_
    · rintro k B' hk' ⟨hx,hL⟩ he
      dsimp only [acts] at he ⊢
      have hsec:=zqY hr hR (d:=(k:Int)) (by omega) (by omega)
      cases hu:B.up live (k:Int)
      · exact ⟨hx.mono (by omega),hL⟩
      · rw [if_pos rfl,zln]
        exact ⟨(hx.trans (zxV hx.ok (.inl hsec))).mono (by omega),hL.trans (zsZ ..)⟩
    · rintro again k B' hk' ⟨hx,hL⟩
      dsimp only [st]
      have hA:=h.nx hx
      have hxw:=hx.w
      have hw':B'.w≤1000000:=by omega
      have hg:(pL (fP (zcN g r data)))[k]? =some (.sl .fresh (uL (atR g r data k))):=zcB (zsU (zid (by omega)))
      have hup:=zEu hA .lent live (d:=(k:Int)) (by omega)
      rw [hL.up] at hup
      by_cases hu:B.up live (k:Int)=true
      rotate_left
      · have hu':B.up live (k:Int)=false:=by simpa using hu
        rw [hu'] at hup
        rw [show acts k=[] from if_neg hu]
        simp (disch:=first | omega | assumption | (simp; done) | fail) [hk',hrl,zaj hg,hup,zao,runA]
      · rw [hu] at hup
        rw [show acts k=[.w k (36+r) (atR g r data k)] from if_pos hu,zln]
        have hwr:=zA1 hA hw' (k:Int) (36+r) .fresh (atR g r data k)
        by_cases he:(B'.write k (36+r) (atR g r data k)).1=0
        · simp (disch:=first | omega | assumption | (simp; done) | fail) [hk',hrl,zaj hg,hup,zao,hwr,he,Ben.act]
        · simp (disch:=first | omega | assumption | (simp; done) | fail) [hk',hrl,zaj hg,hup,zao,hwr,he,Ben.act]
    · rintro again B' ⟨hx,hL⟩
      dsimp only [st]
      simp
theorem zv0 (h:At T0 T1 b idx B) (hw:B.w≤999000) (tg:Tag) (live:List Bool):
    zhP [.h kB b 0,.sl tg (live.map D.bool)] [P0 T0 b idx B,P1 T1 idx B]=some (Ans.mk (.int .i64 (B.sFlush live).1) [] [P1 T1 idx (B.sFlush live).2]):=by
  rw [zoN,ziC]
  unfold zhQ Ben.sFlush
  let acts:Nat→List Act:=fun d=>if B.up live d then [.f d] else []
  have hacts:B.fActs live=(List.range' 0 B.ds.length).flatMap acts:=by unfold Ben.fActs; rw [List.range_eq_range']
  have hsm:=h.ok.small
  rw [hacts,←znX]
  let st:Nat→Ben→(Nat×List D×Int×Int×PUnit)×List (List D)×List (List D)×PUnit:=fun k B'=>((b,live.map D.bool,(B.ds.length:Int),(k:Int),PUnit.unit),P0 T0 b idx B,P1 T1 idx B',PUnit.unit)
  have hst:st 0 B=((b,live.map D.bool,(B.ds.length:Int),0,PUnit.unit),P0 T0 b idx B,P1 T1 idx B,PUnit.unit):=rfl
  have hl:=zy5 h
  unfold Ben.n at hl
  simp (disch:=first | omega | assumption | (simp; done) | fail) only [hl,zac,zbP,zbj]
  rw [←hst]
  refine zqT (fun k B'=>runA (acts k) B') (fun k B'=>Nx 0 B B'∧Like B B'∧P0 T0 b idx B'=P0 T0 b idx B) st (fun y=>some (Ans.mk (.int .i64 y.1) [] [P1 T1 idx y.2])) B.ds.length (by omega) ⟨.rfl' h.ok (by omega),.refl B,rfl⟩ ?_ ?_ ?_
  · rintro k B' hk' ⟨hx,hL,h0⟩ he
    dsimp only [acts] at he ⊢
    cases hu:B.up live (k:Int)
    · exact ⟨hx,hL,h0⟩
    · rw [if_pos rfl,zln]
      refine ⟨(hx.trans (zCd hx.ok)).mono (by omega),hL.trans (zy9 hx.ok _),?_⟩
      show P0 T0 b idx (B'.flush k).2=_
      rw [←h0]
      unfold Ben.flush
      split<;>rfl
  · rintro again k B' hk' ⟨hx,hL,h0⟩
    dsimp only [st]
    have hA:=h.nx hx
    have hxw:=hx.w
    have hw':B'.w≤1000000:=by omega
    have hup:=zEu hA .lent live (d:=(k:Int)) (by omega)
    rw [hL.up,h0] at hup
    by_cases hu:B.up live (k:Int)=true
    rotate_left
    · have hu':B.up live (k:Int)=false:=by simpa using hu
      rw [hu'] at hup
      rw [show acts k=[] from if_neg hu]
      simp (disch:=first | omega | assumption | (simp; done) | fail) [hk',hup,zao,runA]
    · rw [hu] at hup
      rw [show acts k=[.f k] from if_pos hu,zln]
      have hfl:=zA2 hA hw' (k:Int)
      rw [h0] at hfl
      by_cases he:(B'.flush k).1=0
      · simp (disch:=first | omega | assumption | (simp; done) | fail) [hk',hup,zao,hfl,he,Ben.act]
      · simp (disch:=first | omega | assumption | (simp; done) | fail) [hk',hup,zao,hfl,he,Ben.act]
  · rintro again B' ⟨hx,hL,h0⟩
    dsimp only [st]
    simp
end
end Wf

namespace Wf
open Go Go.RowKit Go.Proofs
set_option linter.unusedSimpArgs false
set_option linter.unusedVariables false
set_option maxHeartbeats 4000000
theorem zBe {p q:List Int} {ls o:List (List Int)} (h:zkf p q ls=some o):o.length=ls.length:=by
  unfold zkf at h
  split at h
  · cases h
  split at h
  · cases h
  split at h
  · cases h; simp [zcL]
  · split at h
    · cases h; simp [zcL]
    · cases h; simp [zcL]
  · cases h; simp [zcL]
theorem zCJ {g:Geo} {r:Int} {ls o:List (List Int)} (h:zrB g r ls=some o):o.length=g.width.toNat:=by
  unfold zrB at h
  split at h
  · rw [zBe h]; simp [zf1]
  · cases h
section
variable {T0 T1:Tb} {b:Nat} {idx:List Nat} {B:Ben}
theorem zEA {live:List Bool} {d a:Int} (hdn:B.down=false) (d0:0≤d) (hu:B.up live d=true) (a0:0≤a) (a1:a < 52):B.read d a=(B.cur d a,0):=by
  obtain ⟨h1,h2,_⟩:=zCi d0 hu
  rw [zfO h1] at h2
  unfold Ben.read
  rw [if_neg (by rw [may0.2 ⟨h1,hdn⟩]; simp)]
  unfold DS.read
  rw [if_neg (by rw [zoi.2 ⟨h2,a0,a1⟩]; simp)]
  rfl
theorem zBf {live:List Bool} {d:Int} (a:Int) (hdn:B.down=true) (d0:0≤d) (hu:B.up live d=true):B.read d a=([],6):=by
  obtain ⟨h1,h2,_⟩:=zCi d0 hu
  have hm:B.may d=6:=by unfold Ben.may; rw [h1,hdn]; rfl
  unfold Ben.read
  rw [hm]; simp
def Ben.secP (B:Ben) (live:List Bool) (r:Int) (n k:Nat):List Part:=(List.range n).map fun (d:Nat)=>if d < k then (if B.up live d then (Tag.fresh,B.cur d (36+r)) else (Tag.nil,[])) else (Tag.nil,[])
theorem zCK (live:List Bool) (r:Int) (n:Nat):(B.secP live r n n).map (·.2)=B.secs live r n:=by
  unfold Ben.secP Ben.secs
  rw [List.map_map]
  apply List.map_congr_left
  intro d hd
  have:=List.mem_range.1 hd
  simp only [Function.comp_apply,if_pos this]
  split<;>rfl
@[simp] theorem zuq (live:List Bool) (r:Int) (n k:Nat):(B.secP live r n k).length=n:=by simp [Ben.secP]
theorem zBg (live:List Bool) (r:Int) {n k:Nat} (hk:k < n) (hu:B.up live k=true):(B.secP live r n k).set k (Tag.fresh,B.cur k (36+r))=B.secP live r n (k+1):=by
  apply List.ext_getElem?
  intro j
  rw [List.getElem?_set]
  unfold Ben.secP
  by_cases hj:j < n
  · by_cases hjk:k=j
    · subst hjk; simp [hj,hu]
    · rw [if_neg hjk]
      simp only [List.getElem?_map,List.getElem?_range hj,Option.map_some]
      by_cases h1:j < k
      · simp only [if_pos h1,if_pos (show j < k+1 by omega)]
      · simp only [if_neg h1,if_neg (show ¬ j < k+1 by omega)]
  · have h1:k≠j:=by omega
    rw [if_neg h1,List.getElem?_eq_none (by simp; omega),List.getElem?_eq_none (by simp; omega)]
theorem zBh (live:List Bool) (r:Int) {n k:Nat} (hk:k < n) (hu:B.up live k=false):B.secP live r n k=B.secP live r n (k+1):=by
  unfold Ben.secP
  apply List.map_congr_left
  intro j hj
  by_cases h1:j < k
  · simp only [if_pos h1,if_pos (show j < k+1 by omega)]
  · by_cases hjk:j=k
    · subst hjk; simp [hu]
    · simp only [if_neg h1,if_neg (show ¬ j < k+1 by omega)]
theorem zBi (live:List Bool) (r:Int) (n:Nat):pL (B.secP live r n 0)=List.replicate n (D.sl .nil []):=by
  unfold Ben.secP pL
  rw [List.map_map]
  apply List.ext_getElem?
  intro j
  by_cases hj:j < n
  · simp [hj,uL]
  · rw [List.getElem?_eq_none (by simp; omega),List.getElem?_eq_none (by simp; omega)]
theorem zEB (live:List Bool) (r:Int) {n k:Nat} (hk:k < n):(B.secP live r n k)[k]? =some (Tag.nil,[]):=by unfold Ben.secP; simp [hk]
theorem zru (h:At T0 T1 b idx B) (hw:B.w≤1000000) (tg:Tag) (live:List Bool) (g:Geo) (r:Int):
    zb0 [.h kB b 0,.sl tg (live.map D.bool),.agg [.int .i64 g.l,.int .i64 g.d,.int .i64 g.c],.int .i64 r] [P0 T0 b idx B,P1 T1 idx B]=
      some (Ans.mk (.tup [.sl .own (pL (fP (B.sRead live g r).1)),.int .i64 (B.sRead live g r).2]) [] []):=by
  rw [zpA,ziC]
  unfold zi0 Ben.sRead
  have hck:zak [.agg [.int .i64 g.l,.int .i64 g.d,.int .i64 g.c]]=some (.int .i64 (if g.ok then 0 else 1)):=zfC g.l g.d g.c
  cases hk:g.ok
  · have hf:zcF g r=false:=by unfold zcF; rw [hk]; rfl
    rw [hk] at hck
    simp [hck,hf]; rfl
  rw [hk] at hck
  by_cases r0:r < 0
  · have hf:zcF g r=false:=by unfold zcF; rw [hk]; simp; omega
    simp [hck,hf,r0]; rfl
  by_cases r1:r≥16
  · have hf:zcF g r=false:=by unfold zcF; rw [hk]; simp; omega
    simp [hck,hf,r0,show 16≤r by omega]; rfl
  have hr:zcF g r=true:=zbM.2 ⟨hk,by omega,by omega⟩
  have hdd:=ok_d hk
  rw [if_neg (by simp [hr])]
  have r1':¬ 16≤r:=by omega
  simp (disch:=first | omega | assumption | (simp; done) | fail) only [hck,if_true,zac,zbj,zqK,ztF,zaa,List.length_replicate,Nat.zero_add,Nat.le_refl]
  let st:Nat→(Nat×List D×Int×(Int×Int×Int×PUnit)×List D×Int×Int×PUnit)×List (List D)×List (List D)×PUnit:=fun k=>
    ((b,live.map D.bool,r,(g.l,g.d,g.c,PUnit.unit),pL (B.secP live r g.d.toNat k),((g.d.toNat:Nat):Int),(k:Int),PUnit.unit),P0 T0 b idx B,P1 T1 idx B,PUnit.unit)
  have hst:st 0=((b,live.map D.bool,r,(g.l,g.d,g.c,PUnit.unit),List.replicate g.d.toNat (D.sl .nil []),((g.d.toNat:Nat):Int),0,PUnit.unit),P0 T0 b idx B,P1 T1 idx B,PUnit.unit):=by
    simp only [st,zBi]; rfl
  rw [←hst]
  refine zlc (fun x=>g.d.toNat - x.1.2.2.2.2.2.2.1.toNat) (fun _=>_) (fun x=>∃ k:Nat,k≤g.d.toNat∧(B.down=true→∀ j:Nat,j < k→B.up live j=false)∧x=st k) ?_ ⟨0,by omega,fun _ j hj=>by omega,rfl⟩ (by simp [st]; omega)
  rintro again _ ⟨k,hk',hdn,rfl⟩ hag
  dsimp only [st]
  by_cases hlt:k < g.d.toNat
  · have hup:=zEu h .lent live (d:=(k:Int)) (by omega)
    by_cases hu:B.up live (k:Int)=true
    · rw [hu] at hup
      cases hdo:B.down
      · have hrd:=zx6 h hw (k:Int) (36+r)
        rw [zEA hdo (by omega) hu (by omega) (by omega)] at hrd
        have hg:=zEB (B:=B) live r hlt
        have:=hag (st (k+1)) ⟨k+1,by omega,fun e=>(by rw [hdo] at e; cases e),rfl⟩ (by simp [st]; omega)
        dsimp only [st] at this
        rw [←zBg live r hlt hu] at this
        simp (disch:=first | omega | assumption | (simp; done) | fail) [hlt,hup,hrd,zao,zuq,zaj (zcB hg),zjf,zpi]
        rw [show ((k+1:Nat):Int)=(k:Int)+1 by omega] at this
        simpa [hdo] using this
      · have hrd:=zx6 h hw (k:Int) (36+r)
        rw [zBf (36+r) hdo (by omega) hu] at hrd
        have hany:(List.range g.d.toNat).any (fun (d:Nat)=>B.up live d)=true:=by
          rw [List.any_eq_true]; exact ⟨k,List.mem_range.2 hlt,hu⟩
        rw [hany]
        simp (disch:=first | omega | assumption | (simp; done) | fail) [hlt,hup,hrd,zao]
        rfl
    · have hu':B.up live (k:Int)=false:=by simpa using hu
      rw [hu'] at hup
      have:=hag (st (k+1)) ⟨k+1,by omega,fun e j hj=>by
        by_cases ej:j=k
        · subst ej; exact hu'
        · exact hdn e j (by omega),rfl⟩ (by simp [st]; omega)
      dsimp only [st] at this
      rw [←zBh live r hlt hu'] at this
      rw [show ((k+1:Nat):Int)=(k:Int)+1 by omega] at this
      simp (disch:=first | omega | assumption | (simp; done) | fail) [hlt,hup,zao]
      simpa using this
  · have hke:k=g.d.toNat:=by omega
    have hno:¬ (B.down=true∧(List.range g.d.toNat).any (fun (d:Nat)=>B.up live d)=true):=by
      rintro ⟨e1,e2⟩
      rw [List.any_eq_true] at e2
      obtain ⟨j,hj,hu⟩:=e2
      rw [hdn e1 j (by rw [hke]; exact List.mem_range.1 hj)] at hu; cases hu
    rw [if_neg hno]
    have htk:=zCH g r .lent (ps:=B.secP live r g.d.toNat g.d.toNat) (by rw [zuq]; omega)
    rw [zCK] at htk
    subst hke
    simp (disch:=first | omega | assumption | (simp; done) | fail) [-List.all_eq_true,zoP,zuq,htk]
    cases zrB g r (B.secs live r g.d.toNat) with
    | none=>simp [-List.all_eq_true,solD]; rfl
    | some o=>simp [-List.all_eq_true,solD,zf6]
end
end Wf

namespace Wf
open Go Go.RowKit Go.Proofs
set_option linter.unusedSimpArgs false
set_option linter.unusedVariables false
set_option maxHeartbeats 4000000
def zw4 (w left:Int) (down:Bool) (hs:List D):List D:=[.int .i64 w,.int .i64 left,.bool down,.sl .own hs]
theorem zw5 (m k:Nat):((List.range k).map fun j=>hD (m+j))++[hD (m+k)]=(List.range (k+1)).map fun j=>hD (m+j):=by simp [List.range_succ]
theorem zza (l:List Nat):zdf (l.map hD)=true:=by simp only [zdf,List.all_map,List.all_eq_true]; intro i _; rfl
theorem zBj (l:List Nat):zfJ 1 (l.map hD)=true:=by simp only [zfJ,List.all_map,List.all_eq_true]; intro i _; rfl
theorem zrY {α:Type} (k:Nat) (a:α):List.replicate k a++[a]=List.replicate (k+1) a:=by
  rw [List.replicate_succ']
theorem zCL (T0 T1:Tb) {n:Int} (h0:1≤n) (h1:n≤8):
    zbr [.int .i64 n] [T0,T1]=some (Ans.mk (.tup [.h kB T0.length 0,.int .i64 0]) []
      [T0++[zw4 0 (-1) false ((List.range n.toNat).map fun j=>hD (T1.length+j))],T1++List.replicate n.toNat DS.new.cells]):=by
  rw [zrD]
  unfold zms
  have d1:decide (n < 1)=false:=by simp; omega
  have d2:decide (n > 8)=false:=by simp; omega
  rw [d1,zas,d2,zas,zoe]
  have hn:n=(n.toNat:Int):=by omega
  let st:Nat→(Nat×Int×Int×PUnit)×List (List D)×List (List D)×PUnit:=fun k=>
    ((T0.length,n,(k:Int),PUnit.unit),T0++[zw4 0 (-1) false ((List.range k).map fun j=>hD (T1.length+j))],T1++List.replicate k DS.new.cells,PUnit.unit)
  have h00:st 0=((T0.length,n,0,PUnit.unit),T0++[[D.own0 (D.int IntKind.i64 (0:Int)),D.own0 (D.int IntKind.i64 (-1:Int)),D.own0 (D.bool false),D.own0 (D.sl Tag.nil [])]],T1,PUnit.unit):=by
    simp [st,zw4,D.own0]
  rw [←h00]
  refine zb6 st n.toNat (by omega) ?_ ?_
  · intro again k hk
    dsimp only [st]
    have hd:decide ((k:Int) < n)=true:=by simp; omega
    have hrow:(T0++[zw4 0 (-1) false ((List.range k).map fun j=>hD (T1.length+j))])[T0.length]? =some (zw4 0 (-1) false ((List.range k).map fun j=>hD (T1.length+j))):=by simp
    have hnew:=zFL (T1++List.replicate k DS.new.cells)
    have hl:(T1++List.replicate k DS.new.cells).length=T1.length+k:=by simp
    rw [hl,List.append_assoc,zrY] at hnew
    rw [hd,za0,zaj hrow]
    unfold zw4 at hrow ⊢
    rw [zfL,zfL,zfL,znh,zbI,hnew,zac,zbP,zc1,zbP,zaa (by rfl),zaa (by rfl),zaj hrow,zfL,zfL,zfL,znh,zbI]
    rw [zaa (by simp; omega),zaa (by rfl),zaa (by rfl),zoe,ztE hrow]
    have hset:=zlb hrow (List.set [D.int .i64 0,.int .i64 (-1),.bool false,.sl .own ((List.range k).map fun j=>hD (T1.length+j))] 3 .undef)
    have hsn:=zw5 T1.length k
    unfold hD at hsn
    have hH:(List.map (fun j=>hD (T1.length+j)) (List.range k))++[D.h kD (T1.length+k) 0]=(List.range (k+1)).map fun j=>hD (T1.length+j):=hsn
    dsimp only
    rw [zaj hset,zaa (by simp),hH,zaa (by simp)]
    have e1:((List.range (k+1)).map fun j=>hD (T1.length+j))=((List.range (k+1)).map fun j=>T1.length+j).map hD:=by rw [List.map_map]; rfl
    rw [e1,zaa (zza _),zaa (zBj _),zoe,zaO,zao (by omega) (by omega),zdQ hset,←e1,List.set_set]
    simp [zw4]
  · intro again
    dsimp only [st]
    have hd:decide (((n.toNat:Nat):Int) < n)=false:=by simp; omega
    rw [hd,zas]
def nIdx (T1:Tb) (n:Nat):List Nat:=(List.range n).map fun j=>T1.length+j
def nT0 (T0 T1:Tb) (n:Nat):Tb:=T0++[bRow (Ben.new n) (nIdx T1 n)]
def nT1 (T1:Tb) (n:Nat):Tb:=T1++List.replicate n DS.new.cells
theorem zEC (T1:Tb) (n:Nat):((List.range n).map fun j=>hD (T1.length+j))=(nIdx T1 n).map hD:=by unfold nIdx; rw [List.map_map]; rfl
theorem zBk (T0 T1:Tb) {n:Nat} (h8:n≤8):At (nT0 T0 T1 n) (nT1 T1 n) T0.length (nIdx T1 n) (Ben.new n):=by
  refine ⟨by simp [nT0],?_,fun i hi=>?_,by simp [nIdx,Ben.new],zsE h8⟩
  · unfold List.Nodup nIdx
    rw [List.pairwise_map]
    exact List.Pairwise.imp (fun h e=>h (by omega)) (List.nodup_range (n:=n))
  · unfold nIdx at hi
    obtain ⟨j,hj,rfl⟩:=List.mem_map.1 hi
    have:=List.mem_range.1 hj
    simp [nT1]; omega
theorem zFU (T0 T1:Tb) (n:Nat):P0 (nT0 T0 T1 n) T0.length (nIdx T1 n) (Ben.new n)=nT0 T0 T1 n:=zAJ (by unfold nT0; simp)
theorem zFV (T1:Tb) (n:Nat):P1 (nT1 T1 n) (nIdx T1 n) (Ben.new n)=nT1 T1 n:=by
  unfold P1
  show putL _ _ _++[]=_
  rw [List.append_nil]
  refine znq fun j i c h1 h2=>?_
  have hj:j < n:=by have:=zaU h1; simpa [nIdx] using this
  have e1:i=T1.length+j:=by
    unfold nIdx at h1
    rw [List.getElem?_map,List.getElem?_range hj] at h1
    simpa using h1.symm
  have e2:c=DS.new.cells:=by
    have:(Ben.new n).ds.map DS.cells=List.replicate n DS.new.cells:=by unfold Ben.new; simp
    rw [this] at h2
    rw [List.getElem?_replicate,if_pos hj] at h2
    exact (Option.some.inj h2).symm
  subst e1 e2
  unfold nT1
  rw [List.getElem?_append_right (by omega),show T1.length+j - T1.length=j by omega,List.getElem?_replicate,if_pos hj]
theorem zFW (T0 T1:Tb) {n:Nat} (h0:1≤n) (h8:n≤8):
    zbr [.int .i64 n] [T0,T1]=some (Ans.mk (.tup [.h kB T0.length 0,.int .i64 0]) [] [P0 (nT0 T0 T1 n) T0.length (nIdx T1 n) (Ben.new n),P1 (nT1 T1 n) (nIdx T1 n) (Ben.new n)]):=by
  rw [zCL T0 T1 (by omega) (by omega),zFU,zFV,Int.toNat_natCast,zEC]
  rfl
structure Still (B:Ben):Prop where
  ok:B.Ok
  down:B.down=false
  ds:∀ s∈B.ds,s.failed=false∧s.pend=[]
theorem Still.dk {B:Ben} (h:Still B) (d:Int):(B.dk d).failed=false∧(B.dk d).pend=[]:=by
  unfold Ben.dk
  cases e:B.ds[d.toNat]? with
  | none=>exact ⟨rfl,rfl⟩
  | some s=>exact h.ds s (List.mem_of_getElem? e)
theorem Still.failed {B:Ben} (h:Still B) (d:Int):B.failed d=false:=by unfold Ben.failed; rw [(h.dk d).1,Bool.and_false]
theorem zv1 {n:Nat} (h:n≤8):Still (Ben.new n):=⟨zsE h,rfl,fun s hs=>by
  unfold Ben.new at hs
  rw [(List.mem_replicate.1 hs).2]; exact ⟨rfl,rfl⟩⟩
theorem zDm (n:Nat) (d:Int):(Ben.new n).dk d=DS.new:=by
  unfold Ben.dk Ben.new
  dsimp only
  rw [List.getElem?_replicate]
  split<;>rfl
theorem zCM {a:Nat} (ha:a < 52):DS.new.base a=zfN:=by
  unfold DS.base
  show ((List.replicate 1664 (0:Int)).drop (a*32)).take 32=_
  rw [List.drop_replicate,List.take_replicate]
  unfold zfN
  congr 1
  omega
theorem zw6 (n:Nat) (d:Int) {a:Int} (a0:0≤a) (a1:a < 52):(Ben.new n).cur d a=zfN:=by
  unfold Ben.cur
  rw [zDm]
  show look [] a (DS.new.base a.toNat)=_
  rw [zpO,zCM (by omega)]
section
variable {B:Ben} {d a:Int} {x:List Int}
theorem zv2 (h:Still B) (hx:Sec x):Still (B.damage d a x).2∧(B.damage d a x).2.n=B.n∧(B.damage d a x).2.w=B.w∧(B.damage d a x).2.left=B.left:=by
  refine ⟨⟨(zvw h.ok (.inl hx)).ok,?_,?_⟩,(zvw (d:=d) (a:=a) h.ok (.inl hx)).n,?_,?_⟩
  · unfold Ben.damage; split<;>exact h.down
  · unfold Ben.damage
    split
    · intro s hs
      rcases List.mem_or_eq_of_mem_set hs with hs | hs
      · exact h.ds s hs
      · subst hs
        unfold DS.damage
        dsimp only
        split
        · exact h.dk d
        · exact h.dk d
    · exact h.ds
  · unfold Ben.damage; split<;>rfl
  · unfold Ben.damage; split<;>rfl
theorem zzb (h:Still B) (hd:B.is d=true) (a0:0≤a) (a1:a < 52) (hx:Sec x) {e b:Int} (e0:0≤e) (b0:0≤b) (b1:b < 52):
    (B.damage d a x).1=0∧(B.damage d a x).2.cur e b=if e=d∧b=a then x else B.cur e b:=by
  have hk:=h.dk d
  have hw:(B.dk d).mayW a x=0:=zAE (zoi.2 ⟨hk.1,a0,a1⟩) hx.len
  have e1:(B.dk d).damage a x=(0,(B.dk d).setSec a.toNat x):=by unfold DS.damage; rw [hw,if_pos rfl]
  unfold Ben.damage
  rw [if_pos hd,e1]
  refine ⟨rfl,?_⟩
  unfold Ben.cur
  rw [zfo hd e0]
  by_cases he:e=d
  · subst he
    rw [if_pos rfl]
    have hp:((B.dk e).setSec a.toNat x).pend=[]:=hk.2
    unfold DS.sec
    rw [hp,hk.2,zpO,zpO,zqQ (zju h.ok e).1.len (by omega) hx.len b.toNat (by omega)]
    by_cases hb:b=a
    · rw [if_pos (by omega),if_pos ⟨rfl,hb⟩]
    · rw [if_neg (by omega),if_neg (fun q=>hb q.2)]
  · rw [if_neg he,if_neg (fun q=>he q.1)]
end
def Ben.dmgs (B:Ben) (a:Int) (xs:List (List Int)):Nat→Ben
  | 0=>B
  | k+1=>((B.dmgs a xs k).damage (k:Int) a (xs.getD k [])).2
def rowL (g:Geo) (l:List Int) (r:Nat):List (List Int):=secL (l.drop (min r l.length)) g.width.toNat
theorem zur {g:Geo} (hk:g.ok=true) (l:List Int) (r:Nat):Row g (rowL g l r):=⟨by have:=zdd hk; simp [rowL]; omega,zyc _ _⟩
def ziD (gs:Nat→Geo) (l:List Int) (n:Nat):Nat→Ben
  | 0=>.new n
  | r+1=>(ziD gs l n r).dmgs (36+(r:Int)) (zcN (gs r) r (rowL (gs r) l r)) (min (gs r).d.toNat n)
structure Filld (gs:Nat→Geo) (l:List Int) (n:Nat) (R:Nat) (B:Ben):Prop where
  still:Still B
  num:B.n=n
  w:B.w=0
  left:B.left= -1
  cur:∀ d a:Int,0≤d→0≤a→a < 52→B.cur d a=if 36≤a∧a < 36+R∧d < (gs (a - 36).toNat).d∧d < n then atR (gs (a - 36).toNat) (a - 36) (rowL (gs (a - 36).toNat) l (a - 36).toNat) d else zfN
theorem zrv {g:Geo} {r:Int} {data:List (List Int)} {d:Nat} (h:(d:Int) < g.d):(zcN g r data).getD d []=atR g r data d:=by
  rw [List.getD_eq_getElem?_getD,zid h]; rfl
theorem zoU {gs:Nat→Geo} {l:List Int} {n R:Nat} {B:Ben} (h:Filld gs l n R B) (hR:R < 16) (hk:(gs R).ok=true):∀ k,k≤min (gs R).d.toNat n→
    Still (B.dmgs (36+(R:Int)) (zcN (gs R) R (rowL (gs R) l R)) k)∧(B.dmgs (36+(R:Int)) (zcN (gs R) R (rowL (gs R) l R)) k).n=n∧(B.dmgs (36+(R:Int)) (zcN (gs R) R (rowL (gs R) l R)) k).w=0∧(B.dmgs (36+(R:Int)) (zcN (gs R) R (rowL (gs R) l R)) k).left= -1∧
    ∀ d a:Int,0≤d→0≤a→a < 52→(B.dmgs (36+(R:Int)) (zcN (gs R) R (rowL (gs R) l R)) k).cur d a=if a=36+R∧d < k then atR (gs R) R (rowL (gs R) l R) d else B.cur d a
  | 0,_=>⟨h.still,h.num,h.w,h.left,fun d a d0 a0 a1=>by rw [if_neg (by omega)]; rfl⟩
  | k+1,hk'=>by
    obtain ⟨i1,i2,i3,i4,i5⟩:=zoU h hR hk k (by omega)
    have hr:zcF (gs R) (R:Int)=true:=zbM.2 ⟨hk,by omega,by omega⟩
    have hsec:=zqY hr (zur hk l R) (d:=(k:Int)) (by omega) (by omega)
    have hg:=zrv (g:=gs R) (r:=R) (data:=rowL (gs R) l R) (d:=k) (by omega)
    generalize hB:B.dmgs (36+(R:Int)) (zcN (gs R) R (rowL (gs R) l R)) k=C at*
    have hC:B.dmgs (36+(R:Int)) (zcN (gs R) R (rowL (gs R) l R)) (k+1)=(C.damage (k:Int) (36+(R:Int)) (atR (gs R) R (rowL (gs R) l R) k)).2:=by
      show ((B.dmgs (36+(R:Int)) (zcN (gs R) R (rowL (gs R) l R)) k).damage (k:Int) (36+(R:Int)) ((zcN (gs R) R (rowL (gs R) l R)).getD k [])).2=_
      rw [hB,hg]
    rw [hC]
    have hd:C.is (k:Int)=true:=zdR.2 ⟨by omega,by rw [i2]; omega⟩
    obtain ⟨j1,j2,j3,j4⟩:=zv2 (d:=(k:Int)) (a:=36+(R:Int)) i1 hsec
    refine ⟨j1,j2.trans i2,j3.trans i3,j4.trans i4,fun d a d0 a0 a1=>?_⟩
    rw [(zzb i1 hd (by omega) (by omega) hsec d0 a0 a1).2,i5 d a d0 a0 a1]
    by_cases ha:a=36+(R:Int)
    · by_cases hdk:d=k
      · subst hdk; rw [if_pos ⟨rfl,ha⟩,if_pos ⟨ha,by omega⟩]
      · rw [if_neg (fun q=>hdk q.1)]
        by_cases hlt:d < k
        · rw [if_pos ⟨ha,hlt⟩,if_pos ⟨ha,by omega⟩]
        · rw [if_neg (fun q=>hlt q.2),if_neg (fun q=>by omega)]
    · rw [if_neg (fun q=>ha q.2),if_neg (fun q=>ha q.1),if_neg (fun q=>ha q.1)]
theorem zkX {gs:Nat→Geo} {l:List Int} {n:Nat} (n8:n≤8) (hk:∀ r,(gs r).ok=true):∀ R,R≤16→Filld gs l n R (ziD gs l n R)
  | 0,_=>⟨zv1 n8,by simp [ziD,Ben.new,Ben.n],rfl,rfl,fun d a d0 a0 a1=>by rw [if_neg (by omega)]; exact zw6 n d a0 a1⟩
  | R+1,hR=>by
    have ih:=zkX (l:=l) n8 hk R (by omega)
    obtain ⟨i1,i2,i3,i4,i5⟩:=zoU ih (by omega) (hk R) (min (gs R).d.toNat n) (Nat.le_refl _)
    refine ⟨i1,i2,i3,i4,fun d a d0 a0 a1=>?_⟩
    show ((ziD gs l n R).dmgs (36+(R:Int)) (zcN (gs R) R (rowL (gs R) l R)) (min (gs R).d.toNat n)).cur d a=_
    rw [i5 d a d0 a0 a1,ih.cur d a d0 a0 a1]
    have hdd:=ok_d (hk R)
    by_cases ha:a=36+(R:Int)
    · have e:(a - 36).toNat=R:=by omega
      have e2:a - 36=(R:Int):=by omega
      rw [e,e2]
      by_cases hlt:d < (gs R).d∧d < n
      · rw [if_pos ⟨ha,by omega⟩,if_pos ⟨by omega,by omega,hlt.1,hlt.2⟩]
      · rw [if_neg (fun q=>hlt ⟨by omega,by omega⟩),if_neg (fun q=>by omega),if_neg (fun q=>hlt ⟨q.2.2.1,q.2.2.2⟩)]
    · rw [if_neg (fun q=>ha q.1)]
      by_cases hc:36≤a∧a < 36+(R:Int)∧d < (gs (a - 36).toNat).d∧d < n
      · rw [if_pos hc,if_pos ⟨hc.1,by omega,hc.2.2.1,hc.2.2.2⟩]
      · rw [if_neg hc,if_neg (fun q=>hc ⟨q.1,by omega,q.2.2.1,q.2.2.2⟩)]
end Wf

namespace Wf
open Go Go.RowKit Go.Proofs
set_option linter.unusedSimpArgs false
set_option linter.unusedVariables false
set_option maxHeartbeats 4000000
theorem zBl (l:List Int) (n:Nat):(intL l).drop n=intL (l.drop n):=by simp [intL,List.map_drop]
theorem zzc (l:List Int):zyH 1 (intL l)=true:=by simp [zyH,intL,D.cell,D.width]
theorem zBm (l:List Int) (r:Int) (r0:0≤r):cutI (min r (l.length:Int)) (l.length:Int) (intL l)=intL (l.drop (min r.toNat l.length)):=by
  unfold cutI
  have:(min r (l.length:Int)).toNat=min r.toNat l.length:=by omega
  rw [this,zBl,List.take_of_length_le (by rw [zgr]; simp; omega)]
section
variable {T0 T1:Tb}
end
end Wf

namespace Wf
open Go Go.RowKit Go.Proofs
set_option linter.unusedSimpArgs false
set_option linter.unusedVariables false
set_option maxHeartbeats 4000000
theorem zv3 {p:Nat→Bool} {a b:Nat}:∀ n,(∀ i,i < n→p i=true→i=a∨i=b)→(List.range n).countP p≤(if a < n then 1 else 0)+(if b < n then 1 else 0)
  | 0,_=>by simp
  | n+1,h=>by
    have ih:=zv3 n fun i hi hp=>h i (by omega) hp
    rw [List.range_succ,List.countP_append,List.countP_singleton]
    by_cases hp:p n=true
    · rw [if_pos hp]
      rcases h n (by omega) hp with e | e
      · subst e; rw [if_neg (by omega)] at ih; rw [if_pos (by omega)]; split at ih<;>split<;>omega
      · subst e; rw [if_neg (show ¬ n < n by omega)] at ih; rw [if_pos (show n < n+1 by omega)]; split at ih<;>split<;>omega
    · rw [if_neg hp]
      split at ih<;>split at ih<;>split<;>split<;>omega
theorem zBn {p:Nat→Bool} {a n:Nat} (h:∀ i,i < n→p i=true→i=a):(List.range n).countP p≤1:=by
  have:∀ n,(∀ i,i < n→p i=true→i=a)→(List.range n).countP p≤if a < n then 1 else 0:=by
    intro n
    induction n with
    | zero=>simp
    | succ n ih=>
      intro h
      have ih:=ih fun i hi hp=>h i (by omega) hp
      rw [List.range_succ,List.countP_append,List.countP_singleton]
      by_cases hp:p n=true
      · rw [if_pos hp]
        have e:=h n (by omega) hp
        subst e; rw [if_neg (by omega)] at ih; rw [if_pos (by omega)]; omega
      · rw [if_neg hp]
        split at ih<;>split<;>omega
  have:=this n h
  split at this<;>omega
section
variable {B:Ben} {d a:Int}
theorem zCN (hd:B.is d=true) {e b:Int} (e0:0≤e) (hne:e≠d):(B.fail d).2.cur e b=B.cur e b:=by
  unfold Ben.fail
  rw [if_pos hd]
  unfold Ben.cur
  rw [zfo hd e0,if_neg hne]
theorem zw7 (hd:B.is d=true) {e:Int} (he:B.is e=true):(B.fail d).2.failed e=(decide (e=d) || B.failed e):=by
  unfold Ben.fail
  rw [if_pos hd]
  unfold Ben.failed
  rw [zwI,he,zfo hd (zdR.1 he).1]
  by_cases h:e=d
  · subst h; rw [if_pos rfl,show DS.dead.failed=true from rfl]; simp
  · rw [if_neg h]; simp [h]
theorem zBo (hd:B.is d=true):(B.fail d).1=0∧(B.fail d).2.n=B.n∧(B.fail d).2.down=B.down∧(B.fail d).2.left=B.left∧(B.fail d).2.w=B.w:=by
  unfold Ben.fail
  rw [if_pos hd]
  exact ⟨rfl,by simp,rfl,rfl,rfl⟩
end
theorem zCO {n:Nat} {d:Int} (d0:0≤d):((List.replicate n true)[d.toNat]?).getD false=decide (d < n):=by
  rw [List.getElem?_replicate]
  by_cases h:d < n
  · rw [if_pos (by omega)]; simp [h]
  · rw [if_neg (by omega)]; simp [h]
theorem zFX {B:Ben} {n:Nat} (hn:B.n=n) {d:Int} (d0:0≤d):B.up (List.replicate n true) d=(decide (d < n) && !B.failed d):=by
  unfold Ben.up
  rw [zCO d0,hn]
  cases decide (d < (n:Int))<;>simp
theorem zyh (B:Ben) (live:List Bool) (g:Geo) (r:Int) (data:List (List Int)):nW (B.wActs live g r data)≤g.d.toNat:=by
  unfold Ben.wActs
  have:∀ n,nW ((List.range n).flatMap fun (d:Nat)=>if B.up live d then [Act.w d (36+r) (atR g r data d)] else [])≤n:=by
    intro n
    induction n with
    | zero=>simp [nW]
    | succ n ih=>
      rw [List.range_succ,List.flatMap_append,zqV]
      have:nW (List.flatMap (fun (d:Nat)=>if B.up live d then [Act.w d (36+r) (atR g r data d)] else []) [n])≤1:=by
        simp only [List.flatMap_cons,List.flatMap_nil,List.append_nil]
        split
        · exact Nat.le_trans (List.length_filter_le _ _) (by simp)
        · simp [nW]
      omega
  exact this _
theorem zus (B:Ben) (live:List Bool):nW (B.fActs live)=0:=by
  unfold Ben.fActs nW
  rw [List.length_eq_zero_iff,List.filter_eq_nil_iff]
  intro a ha
  obtain ⟨d,_,ha⟩:=List.mem_flatMap.1 ha
  split at ha
  · rw [List.mem_singleton.1 ha]; simp [Act.isW]
  · cases ha
theorem zw8 {B:Ben} (hB:B.Ok) (hd:B.down=false) {live:List Bool} {g:Geo} {r:Int} {data:List (List Int)} (hr:zcF g r=true) (hR:Row g data) (hl:B.left < 0∨8≤B.left):
    B.sWrite live g r data=(0,does B (B.wActs live g r data))∧Does B (B.wActs live g r data):=by
  have hdd:=ok_d (zbM.1 hr).1
  have hn:=zyh B live g r data
  have:=zpQ (B.wActs live g r data) hB hd (zCj hr hR) (by omega)
  refine ⟨?_,this⟩
  unfold Ben.sWrite
  rw [zqZ hr hR,if_neg (by simp),this.run]
theorem zw9 {B:Ben} (hB:B.Ok) (hd:B.down=false) (live:List Bool) (hl:B.left < 0∨0≤B.left):B.sFlush live=(0,does B (B.fActs live))∧Does B (B.fActs live):=by
  have:=zpQ (B.fActs live) hB hd zCk (by rw [zus]; omega)
  exact ⟨this.run,this⟩
theorem zBp {B:Ben} {live:List Bool} (h:Does B (B.fActs live)) {e b:Int} (e0:0≤e) (b0:0≤b) (b1:b < 52):(does B (B.fActs live)).cur e b=B.cur e b:=by
  rw [h.cur e b e0 b0 b1]
  exact zoj (zCl e b) _
theorem zBq {B:Ben} {live:List Bool} {g:Geo} {r:Int} {data:List (List Int)} (h:Does B (B.wActs live g r data)) {e b:Int} (e0:0≤e) (e1:e < g.d) (b0:0≤b) (b1:b < 52):
    (does B (B.wActs live g r data)).cur e b=if b=36+r∧B.up live e=true then atR g r data e else B.cur e b:=by
  rw [h.cur e b e0 b0 b1]
  by_cases hc:b=36+r∧B.up live e=true
  · rw [if_pos hc,hc.1]
    have:=zAR (B:=B) (live:=live) (g:=g) (r:=r) (data:=data) (d:=e.toNat) (by omega) (by rw [show ((e.toNat:Nat):Int)=e by omega]; exact hc.2) B.cur
    rw [show ((e.toNat:Nat):Int)=e by omega] at this
    exact this
  · rw [if_neg hc]
    refine zoj (zwK ?_) _
    by_cases hb:b=36+r
    · refine .inr ?_
      cases hu:B.up live e
      · rfl
      · exact absurd ⟨hb,hu⟩ hc
    · exact .inl hb
theorem zyi (f:Nat→Int) {n:Nat}:sumK f 32 (List.replicate n zfN) n=zfN:=by
  have hs:∀ l∈List.replicate n zfN,l.length=32:=by intro l hl; rw [(List.mem_replicate.1 hl).2]; exact zkc.len
  have hl:(sumK f 32 (List.replicate n zfN) n).length=32:=zle hs (by simp)
  refine zAw (by rw [hl,zkc.len]) fun i hi=>?_
  rw [hl] at hi
  rw [zsB hs hi (by simp),zkd]
  have:∀ k,k≤n→xsum (fun j=>mul8 (getB ((List.replicate n zfN).getD j []) i) (f j)) k=0:=by
    intro k
    induction k with
    | zero=>intro _; rfl
    | succ k ih=>
      intro hk
      have e:(List.replicate n zfN).getD k []=zfN:=by rw [List.getD_eq_getElem?_getD,List.getElem?_replicate,if_pos (by omega)]; rfl
      show xor8 (xsum _ k) (mul8 (getB ((List.replicate n zfN).getD k []) i) (f k))=0
      rw [ih (by omega),e,zkd,znm]; rfl
  exact this n (Nat.le_refl _)
def zmS (g:Geo):List (List Int):=List.replicate g.width.toNat zfN
theorem zCP {g:Geo} (hk:g.ok=true):Row g (zmS g):=⟨by have:=zdd hk; simp [zmS]; omega,fun x hx=>by rw [(List.mem_replicate.1 hx).2]; exact zkc⟩
theorem zED {g:Geo} {r d:Int} (hr:zcF g r=true) (d0:0≤d) (d1:d < g.d):atR g r (zmS g) d=zfN:=by
  unfold atR
  split
  · unfold sumP zmS; rw [List.length_replicate]; exact zyi _
  · rename_i h1
    split
    · unfold sumQ zmS; rw [List.length_replicate]; exact zyi _
    · rename_i h2
      obtain ⟨c0,c1,_⟩:=zli hr d0 d1 h1 h2
      unfold zmS
      rw [List.getD_eq_getElem?_getD,List.getElem?_replicate,if_pos (by omega)]; rfl
end Wf

namespace Wf
open Go Go.RowKit Go.Proofs
set_option linter.unusedSimpArgs false
set_option linter.unusedVariables false
set_option maxHeartbeats 4000000
theorem zzd (l:List Bool):(l.map D.bool).all D.free=true:=by rw [List.all_map,List.all_eq_true]; intro b _; rfl
theorem zze {d k:Nat} (hk:k < d):((List.range d).map fun i=>D.bool (decide (i < k))).set k (.bool true)=(List.range d).map fun i=>D.bool (decide (i < k+1)):=by
  apply List.ext_getElem?
  intro j
  rw [List.getElem?_set]
  by_cases hj:j < d
  · by_cases hjk:k=j
    · subst hjk; simp [hj]
    · rw [if_neg hjk]
      simp only [List.getElem?_map,List.getElem?_range hj,Option.map_some,Option.some.injEq,D.bool.injEq,decide_eq_decide]
      omega
  · have h1:k≠j:=by omega
    rw [if_neg h1,List.getElem?_eq_none (by simp; omega),List.getElem?_eq_none (by simp; omega)]
theorem zCQ {d:Nat} (h0:1≤d) (h8:d≤8):zbw [.int .i64 0,.int .i64 d]=some (.sl .own ((List.replicate d true).map D.bool)):=by
  rw [zlx]
  unfold zfs
  rw [zaa (by omega),zaa (by rfl),zaa (by omega),zaa (by omega),zaa (by simp),zaa (by simp),Int.toNat_natCast]
  let st:Nat→(Int×Int×List D×Int×Int×PUnit)×PUnit:=fun k=>((0,(d:Int),(List.range d).map (fun i=>D.bool (decide (i < k))),(d:Int),(k:Int),PUnit.unit),PUnit.unit)
  have hst:st 0=((0,(d:Int),List.replicate d (D.bool false),(d:Int),0,PUnit.unit),PUnit.unit):=by
    have:(List.range d).map (fun i=>D.bool (decide (i < 0)))=List.replicate d (D.bool false):=by
      apply List.ext_getElem?; intro j
      by_cases hj:j < d
      · simp [hj]
      · rw [List.getElem?_eq_none (by simp; omega),List.getElem?_eq_none (by simp; omega)]
    simp only [st,this]; rfl
  rw [←hst]
  refine zb6 st d (by omega) ?_ ?_
  · intro again k hk
    dsimp only [st]
    have hd:decide ((k:Int) < (d:Int))=true:=by simp; omega
    have hg:((List.range d).map (fun i=>D.bool (decide (i < k))))[k]? =some (.bool false):=by simp [hk]
    rw [hd,za0,zaa (by omega),zaa (by simp; omega),Nat.zero_add,show Int.toNat (k:Int)=k from rfl,zaj hg,zaa (by rfl),zaO,zao (by omega) (by omega),zaa (by simp),zze hk]
    rfl
  · intro again
    dsimp only [st]
    have hd:decide ((d:Int) < (d:Int))=false:=by simp
    have hd1:decide ((d:Int) > 0)=true:=by simp; omega
    have hall:(List.range d).map (fun i=>D.bool (decide (i < d)))=(List.replicate d true).map D.bool:=by
      apply List.ext_getElem?; intro j
      by_cases hj:j < d
      · simp [hj]
      · rw [List.getElem?_eq_none (by simp; omega),List.getElem?_eq_none (by simp; omega)]
    have hz:decide ((0:Int) % 3 > 0)=false:=rfl
    have hz2:((0:Int) % 9 == 8)=false:=rfl
    rw [hd,zas,hd1,za0,zmQ 0 3 (by omega) (by omega),zac,zbj,hz,zas,za0,zmQ 0 9 (by omega) (by omega),zac,zbj,hz2,zas,zaa (by rfl),hall,zaa (zzd _)]
end Wf

namespace Wf
open Go Go.RowKit
universe u
def idf {α:Sort u} (a:α):α:=a
@[simp] theorem zcQ {α:Sort u} (a:α):idf a=a:=congrFun (funext fun _=>rfl) a
section
variable {R α β:Type}
@[congr high] theorem zGf {b b':Bool} {x y:Option R} (h:idf b=b'):brK b x y=brK b' x y:=by rw [zcQ] at h; rw [h]
@[congr high] theorem zE0 {x x':Option α} {f:α→Option R} (h:idf x=x'):zar x f=zar x' f:=by rw [zcQ] at h; rw [h]
@[congr high] theorem zGg {c c':Prop} [d:Decidable c] [d':Decidable c'] {x:Option R} (h:idf c=c'):sif c x=sif c' x:=by rw [zcQ] at h; subst h; congr
@[congr high] theorem zFY {n n':Int} {f:Int→Option R} (h:idf n=n'):letN n f=letN n' f:=by rw [zcQ] at h; rw [h]
@[congr high] theorem zFZ {l l':List α} {i i':Nat} {f:α→Option R} (h:idf l=l') (h':idf i=i'):getK l i f=getK l' i' f:=by rw [zcQ] at h h'; rw [h,h']
@[congr high] theorem zGh {k:IntKind} {d d':D} {f:Int→Option R} (h:idf d=d'):asI k d f=asI k d' f:=by rw [zcQ] at h; rw [h]
@[congr high] theorem zGi {d d':D} {f:Bool→Option R} (h:idf d=d'):asB d f=asB d' f:=by rw [zcQ] at h; rw [h]
@[congr high] theorem zGj {d d':D} {f:ByteArray→Option R} (h:idf d=d'):asS d f=asS d' f:=by rw [zcQ] at h; rw [h]
@[congr high] theorem zF0 {d d':D} {f:Tag→List D→Option R} (h:idf d=d'):asSl d f=asSl d' f:=by rw [zcQ] at h; rw [h]
@[congr high] theorem zE1 {d d':D} {f:List D→Option R} (h:idf d=d'):za4 d f=za4 d' f:=by rw [zcQ] at h; rw [h]
@[congr high] theorem zEE {d d':D} {f:List D→Option R} (h:idf d=d'):zlS d f=zlS d' f:=by rw [zcQ] at h; rw [h]
@[congr high] theorem zE2 {d d':D} {f:List D→Option R} (h:idf d=d'):asAgg d f=asAgg d' f:=by rw [zcQ] at h; rw [h]
@[congr high] theorem zE3 {d d':D} {f:List D→Option R} (h:idf d=d'):zd5 d f=zd5 d' f:=by rw [zcQ] at h; rw [h]
@[congr high] theorem zF1 {d d':D} {f:D→Option R} (h:idf d=d'):asAt d f=asAt d' f:=by rw [zcQ] at h; rw [h]
@[congr high] theorem zE4 {d d':List D} {f:D→Option R} (h:idf d=d'):zz0 d f=zz0 d' f:=by rw [zcQ] at h; rw [h]
@[congr high] theorem zGk {k:Nat} {d d':D} {f:Nat→Option R} (h:idf d=d'):asH k d f=asH k d' f:=by rw [zcQ] at h; rw [h]
@[congr high] theorem zE5 {d d':D} {f:Bool→Option R} (h:idf d=d'):zn5 d f=zn5 d' f:=by rw [zcQ] at h; rw [h]
@[congr high] theorem zEF {d d':D} {f:Bool→Option R} (h:idf d=d'):zqo d f=zqo d' f:=by rw [zcQ] at h; rw [h]
@[congr high] theorem zEG {kk:MK} {d d':D} {f:List (Int×D)→Option R} (h:idf d=d'):zh5 kk d f=zh5 kk d' f:=by rw [zcQ] at h; rw [h]
@[congr high] theorem zE6 {kk:MK} {d d':D} {f:List (Int×D)→Option R} (h:idf d=d'):zqp kk d f=zqp kk d' f:=by rw [zcQ] at h; rw [h]
@[congr high] theorem zF2 {T T':Tb} {f:Tb→Option R} (h:idf T=T'):letT T f=letT T' f:=by rw [zcQ] at h; rw [h]
@[congr high] theorem zE7 {l l':List α} {f:α→List α→Option R} (h:idf l=l'):zcq l f=zcq l' f:=by rw [zcQ] at h; rw [h]
@[congr high] theorem zF3 {l l':List α} {x:Option R} (h:idf l=l'):nilK l x=nilK l' x:=by rw [zcQ] at h; rw [h]
@[congr high] theorem zCR {ls:List Lf} {d d':List D} {f:LfT ls→Option R} (h:idf d=d'):zaw ls d f=zaw ls d' f:=by rw [zcQ] at h; rw [h]
@[congr high] theorem zE8 {B:(α→Option R)→α→Option R} {a a':α} (h:idf a=a'):zcd B a=zcd B a':=by rw [zcQ] at h; rw [h]
end
@[simp] theorem zCS (k i:Nat):zh7 (.h k i 0)=true:=rfl
@[simp] theorem zGJ (k i:Nat):D.free (.h k i 0)=true:=rfl
@[simp] theorem zkY {R:Type} (a b:D) (f:LfT [.any,.any]→Option R):zaw [.any,.any] [a,b] f=f (a,b,()):=by rw [zeK,zeK,zfM]
@[simp] theorem zGl {β:Type} {l:List β} {n:Nat} (h:l.length=n):cut 0 n l=l:=by subst h; exact zdg l
end Wf

namespace Wf
open Go Go.RowKit Go.Proofs
set_option linter.unusedSimpArgs false
set_option linter.unusedVariables false
set_option maxHeartbeats 4000000
theorem zBr {T0:Tb} {b:Nat} {idx:List Nat}:∀ (l:List Act) (B:Ben),(∀ a∈l,a.isW=false)→P0 T0 b idx (does B l)=P0 T0 b idx B
  | [],B,_=>rfl
  | a::l,B,h=>by
    show P0 T0 b idx (does (B.does1 a) l)=_
    rw [zBr l _ fun a ha=>h a (List.mem_cons_of_mem _ ha)]
    have:=h a (List.mem_cons_self ..)
    cases a with
    | w d a x=>cases this
    | f d=>rfl
theorem zEH (B:Ben) (live:List Bool):∀ a∈B.fActs live,a.isW=false:=by
  intro a ha
  unfold Ben.fActs at ha
  obtain ⟨e,he,ha⟩:=List.mem_flatMap.1 ha
  split at ha
  · rw [List.mem_singleton.1 ha]; rfl
  · cases ha
structure Run (U V:Tb) (b:Nat) (idx:List Nat) (B:Ben) (n:Nat) (K:Int):Prop where
  at':At U V b idx B
  num:B.n=n
  down:B.down=false
  left:B.left= -1
  w:B.w≤K
theorem Run.mono {U V:Tb} {b:Nat} {idx:List Nat} {B:Ben} {n:Nat} {K L:Int} (h:Run U V b idx B n K) (hk:K≤L):Run U V b idx B n L:=⟨h.at',h.num,h.down,h.left,by have:=h.w; omega⟩
section
variable {U V:Tb} {b:Nat} {idx:List Nat} {B:Ben} {n:Nat} {K:Int}
theorem Run.up (h:Run U V b idx B n K) {d:Int} (d0:0≤d):B.up (List.replicate n true) d=(decide (d < n) && !B.failed d):=zFX h.num d0
theorem Run.is (h:Run U V b idx B n K) {d:Int} (d0:0≤d) (d1:d < n):B.is d=true:=zdR.2 ⟨d0,by rw [h.num]; exact d1⟩
theorem Run.write (h:Run U V b idx B n K) (hK:K≤900000) (tg:Tag) (live:List Bool) {g:Geo} {r:Int} (hr:zcF g r=true) (tg2:Tag) {data:List (List Int)} (hR:Row g data):∃ B1,
    zhN [.h kB b 0,.sl tg (live.map D.bool),.agg [.int .i64 g.l,.int .i64 g.d,.int .i64 g.c],.int .i64 r,.sl tg2 (pL (fP data))] [P0 U b idx B,P1 V idx B]=some (Ans.mk (.int .i64 0) [] [P0 U b idx B1,P1 V idx B1])∧
    Run U V b idx B1 n (K+8)∧(∀ e,B1.failed e=B.failed e)∧B1=does B (B.wActs live g r data)∧(∀ e a:Int,0≤e→e < g.d→0≤a→a < 52→B1.cur e a=if a=36+r∧B.up live e=true then atR g r data e else B.cur e a):=by
  obtain ⟨hw1,hD1⟩:=zw8 h.at'.ok h.down (live:=live) hr hR (.inl (by rw [h.left]; omega))
  have hdd:=ok_d (zbM.1 hr).1
  have hw:=h.w
  have hwd:=zdd (zbM.1 hr).1
  have hsw:=zvZ h.at' (by omega) tg live g r tg2 (ps:=fP data) (by have:=hR.len; simp; omega) (by intro x hx; obtain ⟨y,hy,rfl⟩:=List.mem_map.1 hx; exact hR.sec y hy)
  rw [zsT,hw1] at hsw
  have hn:=zyh B live g r data
  have hnx:=hD1.nx.w
  refine ⟨does B (B.wActs live g r data),hsw,⟨h.at'.nx hD1.nx,hD1.nx.n.trans h.num,hD1.down.trans h.down,by rw [hD1.left,h.left]; rfl,by omega⟩,hD1.failed,rfl,fun e a e0 e1 a0 a1=>zBq hD1 e0 e1 a0 a1⟩
theorem Run.flush (h:Run U V b idx B n K) (hK:K≤900000) (tg:Tag) (live:List Bool):∃ B1,
    zhP [.h kB b 0,.sl tg (live.map D.bool)] [P0 U b idx B,P1 V idx B]=some (Ans.mk (.int .i64 0) [] [P1 V idx B1])∧P0 U b idx B=P0 U b idx B1∧
    Run U V b idx B1 n K∧(∀ e,B1.failed e=B.failed e)∧B1=does B (B.fActs live)∧(∀ e a:Int,0≤e→0≤a→a < 52→B1.cur e a=B.cur e a):=by
  obtain ⟨hw1,hD1⟩:=zw9 h.at'.ok h.down live (.inl (by rw [h.left]; omega))
  have hw:=h.w
  have hsf:=zv0 h.at' (by omega) tg live
  rw [hw1] at hsf
  have hnx:=hD1.nx.w
  rw [zus] at hnx
  refine ⟨does B (B.fActs live),hsf,(zBr _ _ (zEH B live)).symm,⟨h.at'.nx hD1.nx,hD1.nx.n.trans h.num,hD1.down.trans h.down,by rw [hD1.left,h.left,zus]; rfl,by omega⟩,hD1.failed,rfl,fun e a e0 a0 a1=>zBp hD1 e0 a0 a1⟩
theorem Run.fail (h:Run U V b idx B n K) {d:Int} (d0:0≤d) (d1:d < n):∃ B1,
    zbg [.h kB b 0,.int .i64 d] [P0 U b idx B,P1 V idx B]=some (Ans.mk (.int .i64 0) [] [P1 V idx B1])∧P0 U b idx B=P0 U b idx B1∧
    Run U V b idx B1 n K∧(∀ e:Int,0≤e→e < n→B1.failed e=(decide (e=d) || B.failed e))∧B1=(B.fail d).2∧(∀ e a:Int,0≤e→e≠d→B1.cur e a=B.cur e a):=by
  have hd:=h.is d0 d1
  obtain ⟨f1,f2,f3,f4,f5⟩:=zBo hd
  have hf:=zFO h.at' d
  rw [f1] at hf
  have hp:P0 U b idx B=P0 U b idx (B.fail d).2:=by unfold Ben.fail; rw [if_pos hd]; rfl
  have hnx:=zEj (d:=d) h.at'.ok
  refine ⟨(B.fail d).2,hf,hp,⟨h.at'.nx hnx,f2.trans h.num,f3.trans h.down,f4.trans h.left,by rw [f5]; exact h.w⟩,fun e e0 e1=>zw7 hd (h.is e0 e1),rfl,fun e a e0 hne=>zCN hd e0 hne⟩
theorem Run.read (h:Run U V b idx B n K) (hK:K≤900000) (tg:Tag) (live:List Bool) (g:Geo) (r:Int):
    zb0 [.h kB b 0,.sl tg (live.map D.bool),.agg [.int .i64 g.l,.int .i64 g.d,.int .i64 g.c],.int .i64 r] [P0 U b idx B,P1 V idx B]=some (Ans.mk (.tup [.sl .own (pL (fP (B.sRead live g r).1)),.int .i64 (B.sRead live g r).2]) [] []):=
  zru h.at' (by have:=h.w; omega) tg live g r
end
end Wf

namespace Wf
open Go Go.RowKit Go.Proofs
set_option linter.unusedSimpArgs false
set_option linter.unusedVariables false
set_option maxHeartbeats 4000000
@[simp ↓] theorem zGK {R α:Type} (g:α→Option R) (f:(α→Option R)→Option R):jn g f=f g:=rfl
theorem zBs {R α:Type} {g:α→Option R} {f:(α→Option R)→Option R} {r:Option R} (I:α→Prop) (hg:∀ a,I a→g a=r) (hf:∀ j,(∀ a,I a→j a=r)→f j=r):jn g f=r:=hf g hg
section
variable {T0 T1:Tb} {b:Nat} {idx:List Nat} {B:Ben}
end
end Wf

namespace Wf
open Go Go.RowKit Go.Proofs
set_option linter.unusedSimpArgs false
set_option linter.unusedVariables false
set_option maxHeartbeats 4000000
def Ben.nP (B:Ben) (d:Int):Nat:=(B.dk d).pend.length
section
variable {B:Ben}
theorem zyj {a:Act} (h:a.Ok B) {e:Int} (e0:0≤e):(B.does1 a).nP e=match a with
    | .w d _ _=>if e=d then B.nP e+1 else B.nP e
    | .f d=>if e=d then 0 else B.nP e:=by
  cases a with
  | w d a x=>
    show (((B.junk ((B.dk d).write a x).2).less.setD d ((B.dk d).add a x)).dk e).pend.length=if e=d then B.nP e+1 else B.nP e
    rw [zfo (by simpa using h.1) e0]
    by_cases he:e=d
    · subst he; rw [if_pos rfl,if_pos rfl]; simp [DS.add,Ben.nP]
    · rw [if_neg he,if_neg he]; rfl
  | f d=>
    show ((B.setD d (B.dk d).flushed).dk e).pend.length=if e=d then 0 else B.nP e
    rw [zfo h.1 e0]
    by_cases he:e=d
    · subst he; rw [if_pos rfl,if_pos rfl]; rfl
    · rw [if_neg he,if_neg he]; rfl
theorem zEI {as':List Act} (hB:B.Ok):(∀ a∈as',a.Ok B)→(does B as').Ok∧∀ c:Act,c.Ok B→c.Ok (does B as'):=by
  induction as' generalizing B with
  | nil=>intro _; exact ⟨hB,fun c hc=>hc⟩
  | cons a l ih=>
    intro h
    have ha:=h a (List.mem_cons_self ..)
    obtain ⟨i1,i2⟩:=ih (zlg hB ha).ok fun c hc=>zpP hB ha (h c (List.mem_cons_of_mem _ hc))
    exact ⟨i1,fun c hc=>i2 c (zpP hB ha hc)⟩
theorem zyk (B:Ben) (f:Nat→Bool):∀ k,(∀ j:Nat,j < k→B.nP j=if f j then 1 else 0)→zun B k=((List.range k).countP f:Nat)
  | 0,_=>rfl
  | k+1,h=>by
    have ih:=zyk B f k fun j hj=>h j (by omega)
    have hk:=h k (by omega)
    unfold Ben.nP at hk
    rw [List.range_succ,List.countP_append,List.countP_singleton]
    show zun B k+_=_
    rw [ih,hk]
    split<;>simp
theorem zv4 (h:∀ j:Nat,j < B.ds.length→B.nP j=0):B.pending=0:=by
  unfold Ben.pending
  rw [zyk B (fun _=>false) _ (by simpa using h)]
  simp
end
end Wf

namespace Wf
open Go Go.RowKit Go.Proofs
set_option linter.unusedSimpArgs false
set_option linter.unusedVariables false
set_option maxHeartbeats 4000000
end Wf

namespace Wf
open Go Go.RowKit Go.Proofs
set_option linter.unusedSimpArgs false
set_option linter.unusedVariables false
set_option maxHeartbeats 4000000
theorem zzf {l:List Int} (h:l=[]∨Sec l):Sec (zjt 32 l):=by
  rcases h with rfl | h
  · rw [zvt]; exact zkc
  · rw [zqN h.len]; exact h
theorem zpT {ls:List (List Int)} {j:Nat} {x:List Int} (h:∀ y∈ls,Sec y) (hx:Sec x):∀ y∈ls.set j x,Sec y:=fun y hy=>by
  rcases List.mem_or_eq_of_mem_set hy with hy | hy
  · exact h y hy
  · rw [hy]; exact hx
theorem zzg {p q:List Int} {ls o:List (List Int)} (hp:p=[]∨Sec p) (hq:q=[]∨Sec q) (hl:∀ l∈ls,l=[]∨Sec l) (h:zkf p q ls=some o):∀ x∈o,Sec x:=by
  have hf:∀ x∈zco ls,Sec x:=fun x hx=>by
    obtain ⟨y,hy,rfl⟩:=List.mem_map.1 hx
    exact zzf (hl y hy)
  have hP:=ztM hf
  have hQ:=ztN hf
  unfold zkf at h
  split at h
  · cases h
  split at h
  · cases h
  rename_i hc
  rw [ztO] at hc
  split at h
  · rename_i j k hm
    rw [hm] at hc
    have hp1:Sec p:=hp.resolve_left fun e=>by rw [if_pos e] at hc; simp at hc
    have hq1:Sec q:=hq.resolve_left fun e=>by rw [if_pos e] at hc; simp at hc
    cases h
    have hX:Sec (twoX p q (zco ls) j k):=znn _ (zhB (zhB hq1 hQ) (znn _ (zhB hp1 hP)))
    exact zpT (zpT hf hX) (zhB (zhB hp1 hP) hX)
  · rename_i j hm
    rw [hm] at hc
    split at h
    · rename_i h0
      have hp1:Sec p:=hp.resolve_left fun e=>by rw [e] at h0; simp at h0
      cases h
      exact zpT hf (zhB hp1 hP)
    · rename_i h0
      have hp0:p=[]:=by cases p; rfl; simp at h0
      have hq1:Sec q:=hq.resolve_left fun e=>by rw [if_pos e,if_pos hp0] at hc; simp at hc
      cases h
      exact zpT hf (znn _ (zhB hq1 hQ))
  · cases h; exact hf
section
variable {B:Ben}
theorem zBt (hB:B.Ok) {d a:Int} (a0:0≤a) (a1:a < 52):Sec (B.cur d a):=zFz (zju hB d).1 a0 a1
theorem zrw (hB:B.Ok) {live:List Bool} {g:Geo} {r:Int} (h:(B.sRead live g r).2=0):Row g (B.sRead live g r).1∧zcF g r=true:=by
  unfold Ben.sRead at h ⊢
  split at h
  · exact absurd h (by decide)
  rename_i hr
  have hr:zcF g r=true:=by simpa using hr
  rw [if_neg (by simp [hr])]
  split at h
  · exact absurd h (by decide)
  rename_i hd
  rw [if_neg hd]
  cases ht:zrB g r (B.secs live r g.d.toNat) with
  | none=>rw [ht] at h; exact absurd h (by decide)
  | some o=>
    refine ⟨⟨?_,?_⟩,hr⟩
    · have:=zCJ ht
      have:=zdd (zbM.1 hr).1
      show (o.length:Int)=_
      omega
    · obtain ⟨hk,r0,r1⟩:=zbM.1 hr
      have hs:∀ j:Nat,(B.secs live r g.d.toNat).getD j []=[]∨Sec ((B.secs live r g.d.toNat).getD j []):=by
        intro j
        unfold Ben.secs
        rw [List.getD_eq_getElem?_getD,List.getElem?_map]
        cases (List.range g.d.toNat)[j]? with
        | none=>exact .inl rfl
        | some d=>
          show (if B.up live d=true then _ else _)=[]∨Sec (if B.up live d=true then _ else _)
          split
          · exact .inr (zBt hB (by omega) (by omega))
          · exact .inl rfl
      unfold zrB at ht
      split at ht
      rotate_left
      · cases ht
      refine zzg (hs _) ?_ (fun l hl=>?_) ht
      · unfold qOf
        split
        · exact .inl rfl
        · exact hs _
      · obtain ⟨j,_,rfl⟩:=List.mem_map.1 hl
        exact hs _
end
def mayR (a to:Geo) (split:Int):Bool:=a.ok && decide (0≤split) && decide (split≤16) && (decide (split=0) || to.ok)
theorem rebuild_may (a to:Geo) (split:Int):zbY [.agg [.int .i64 a.l,.int .i64 a.d,.int .i64 a.c],.agg [.int .i64 to.l,.int .i64 to.d,.int .i64 to.c],.int .i64 split]=some (.bool (mayR a to split)):=by
  rw [zpn]
  unfold ziU mayR
  have h1:zak [.agg [.int .i64 a.l,.int .i64 a.d,.int .i64 a.c]]=some (.int .i64 (if a.ok then 0 else 1)):=zfC a.l a.d a.c
  have h2:zak [.agg [.int .i64 to.l,.int .i64 to.d,.int .i64 to.c]]=some (.int .i64 (if to.ok then 0 else 1)):=zfC to.l to.d to.c
  cases hk:a.ok<;>rw [hk] at h1
  · simp [h1]
  · cases hk2:to.ok<;>rw [hk2] at h2<;>by_cases c1:0≤split<;>by_cases c2:split≤16<;>by_cases c3:split=0<;>simp [zcg,h1,h2,c1,c2,c3]<;>omega
def gAt (a to:Geo) (split:Int) (r:Nat):Geo:=if (r:Int) < split then to else a
def Ben.rOne (B:Ben) (live:List Bool) (d:Int) (g:Geo) (r:Int):Int×Ben:=
  if (B.sRead live g r).2≠0 then ((B.sRead live g r).2,B) else B.write d (36+r) (atR g r (B.sRead live g r).1 d)
def Ben.rStep (live:List Bool) (d:Int) (a to:Geo) (split:Int) (r:Nat) (B:Ben):Int×Ben:=
  if (gAt a to split r).d≤d then (0,B) else B.rOne live d (gAt a to split r) r
def Ben.rRows (B:Ben) (live:List Bool) (d:Int) (a to:Geo) (split:Int):Int×Ben:=
  if (runE (Ben.rStep live d a to split) 0 16 B).1=0 then (runE (Ben.rStep live d a to split) 0 16 B).2.flush d else runE (Ben.rStep live d a to split) 0 16 B
def Ben.rDisk (B:Ben) (live:List Bool) (d:Int) (a to:Geo) (split:Int):Int×Ben:=
  if d < 0∨B.n≤d∨(live[d.toNat]?).getD false=true∨mayR a to split=false then (1,B)
  else if B.failed d=true then (5,B) else B.rRows live d a to split
section
variable {T0 T1:Tb} {b:Nat} {idx:List Nat} {B:Ben}
theorem zxa (hB:B.Ok) {live:List Bool} {d:Int} {g:Geo} {r:Int} (d0:0≤d) (d1:d < g.d):Nx 1 B (B.rOne live d g r).2∧Like B (B.rOne live d g r).2:=by
  unfold Ben.rOne
  split
  · exact ⟨.rfl' hB (by omega),.refl B⟩
  · rename_i h
    obtain ⟨hR,hr⟩:=zrw hB (Classical.not_not.1 h)
    exact ⟨zxV hB (.inl (zqY hr hR d0 d1)),zsZ ..⟩
theorem rebuild_one (h:At T0 T1 b idx B) (hw:B.w≤1000000) (tg:Tag) (live:List Bool) {d:Int} {g:Geo} {r:Int} (d0:0≤d) (d1:d < g.d):
    zbD [.h kB b 0,.sl tg (live.map D.bool),.int .i64 d,.agg [.int .i64 g.l,.int .i64 g.d,.int .i64 g.c],.int .i64 r] [P0 T0 b idx B,P1 T1 idx B]=
      some (Ans.mk (.int .i64 (B.rOne live d g r).1) [] [P0 T0 b idx (B.rOne live d g r).2,P1 T1 idx (B.rOne live d g r).2]):=by
  rw [zpE,ziC]
  unfold zi3 Ben.rOne
  have hrd:=zru h hw .lent live g r
  by_cases he:(B.sRead live g r).2=0
  · obtain ⟨hR,hr⟩:=zrw h.ok he
    obtain ⟨hk,r0,r1⟩:=zbM.1 hr
    have hw2:=zdd hk
    have hdd:=ok_d hk
    rw [he] at hrd
    rw [if_neg (by simp [he])]
    generalize (B.sRead live g r).1=data at*
    have hlen:=hR.len
    have hfill:=zyg g r .lent (ps:=fP data) (by simp; omega)
    rw [zsT,zqZ hr hR] at hfill
    have hg:(pL (fP (zcN g r data)))[d.toNat]? =some (.sl .fresh (uL (atR g r data d))):=zcB (zsU (by
      have:=zid (g:=g) (r:=r) (data:=data) (d:=d.toNat) (by omega)
      rw [show ((d.toNat:Nat):Int)=d by omega] at this; exact this))
    have hwr:=zA1 h hw d (36+r) .fresh (atR g r data d)
    have hrl:=zlj g r data
    simp (disch:=first | omega | assumption | (simp; done) | fail) [-List.all_eq_true,hrd,zoP,hfill,solD,zao,zaj hg,hwr,hrl,d0]
  · simp [-List.all_eq_true,hrd,he]
theorem zkZ (h:At T0 T1 b idx B) (hw:B.w≤999000) (tg:Tag) (live:List Bool) (d:Int) (a to:Geo) (split:Int):
    zaR [.h kB b 0,.sl tg (live.map D.bool),.int .i64 d,.agg [.int .i64 a.l,.int .i64 a.d,.int .i64 a.c],.agg [.int .i64 to.l,.int .i64 to.d,.int .i64 to.c],.int .i64 split] [P0 T0 b idx B,P1 T1 idx B]=
      some (Ans.mk (.int .i64 (B.rDisk live d a to split).1) [] [P0 T0 b idx (B.rDisk live d a to split).2,P1 T1 idx (B.rDisk live d a to split).2]):=by
  rw [zoJ,ziC]
  unfold zhK Ben.rDisk
  have hl:=zy5 h
  have hm:=rebuild_may a to split
  have hf:=zx5 h d
  by_cases c0:d < 0
  · simp [c0]
  by_cases c1:B.n≤d
  · simp [c0,c1,hl]
  have loop:mayR a to split=true→B.failed d=false→∀ (X:Option Ans),X=zcd (α:=(Nat×List D×Int×Int×(Int×Int×Int×PUnit)×(Int×Int×Int×PUnit)×Int×PUnit)×List (List D)×List (List D)×PUnit) (fun again9 ((x10,(l11,(i12,(i13,((i14,(i15,(i16,_))),((i17,(i18,(i19,_))),(i20,_))))))),(U21,(U22,_)))=>
                brK (decide (i20 < (16:Int)))
                  (brK (decide (i20 < i13))
                    (brK (decide (i12≥i18))
                      (letN (IntKind.wrap IntKind.i64 (i20+(1:Int))) fun n23=>
                      again9 (((x10,l11,i12,i13,(i14,i15,i16,PUnit.unit),(i17,i18,i19,PUnit.unit),n23,PUnit.unit),U21,U22,PUnit.unit)))
                      (zar (zbD [D.h (3840) x10 (0:Nat),D.sl Tag.lent l11,D.int IntKind.i64 i12,D.agg [D.int IntKind.i64 i17,D.int IntKind.i64 i18,D.int IntKind.i64 i19],D.int IntKind.i64 i20] [U21,U22]) fun r24=>
                      nilK r24.outs <|
                      zcq r24.tbs fun c25 q26=>
                      zcq q26 fun c27 q28=>
                      nilK q28 <|
                      asI IntKind.i64 r24.r fun i29=>
                      brK (i29 != (0:Int))
                        (some (Ans.mk (D.int IntKind.i64 i29) [] [c25,c27]))
                        (letN (IntKind.wrap IntKind.i64 (i20+(1:Int))) fun n30=>
                        again9 (((x10,l11,i12,i13,(i14,i15,i16,PUnit.unit),(i17,i18,i19,PUnit.unit),n30,PUnit.unit),c25,c27,PUnit.unit)))))
                    (brK (decide (i12≥i15))
                      (letN (IntKind.wrap IntKind.i64 (i20+(1:Int))) fun n31=>
                      again9 (((x10,l11,i12,i13,(i14,i15,i16,PUnit.unit),(i17,i18,i19,PUnit.unit),n31,PUnit.unit),U21,U22,PUnit.unit)))
                      (zar (zbD [D.h (3840) x10 (0:Nat),D.sl Tag.lent l11,D.int IntKind.i64 i12,D.agg [D.int IntKind.i64 i14,D.int IntKind.i64 i15,D.int IntKind.i64 i16],D.int IntKind.i64 i20] [U21,U22]) fun r32=>
                      nilK r32.outs <|
                      zcq r32.tbs fun c33 q34=>
                      zcq q34 fun c35 q36=>
                      nilK q36 <|
                      asI IntKind.i64 r32.r fun i37=>
                      brK (i37 != (0:Int))
                        (some (Ans.mk (D.int IntKind.i64 i37) [] [c33,c35]))
                        (letN (IntKind.wrap IntKind.i64 (i20+(1:Int))) fun n38=>
                        again9 (((x10,l11,i12,i13,(i14,i15,i16,PUnit.unit),(i17,i18,i19,PUnit.unit),n38,PUnit.unit),c33,c35,PUnit.unit))))))
                  (zar (zaB [D.h (3840) x10 (0:Nat),D.int IntKind.i64 i12] [U21,U22]) fun r39=>
                  nilK r39.outs <|
                  zcq r39.tbs fun c40 q41=>
                  nilK q41 <|
                  asI IntKind.i64 r39.r fun i42=>
                  some (Ans.mk (D.int IntKind.i64 i42) [] [U21,c40])))
                (((b,live.map D.bool,d,split,(a.l,a.d,a.c,PUnit.unit),(to.l,to.d,to.c,PUnit.unit),(0:Int),PUnit.unit),P0 T0 b idx B,P1 T1 idx B,PUnit.unit))→X=some (Ans.mk (.int .i64 (B.rRows live d a to split).1) [] [P0 T0 b idx (B.rRows live d a to split).2,P1 T1 idx (B.rRows live d a to split).2]):=by
    intro hmay hfd X hX
    rw [hX]
    clear hX
    let st:Nat→Ben→(Nat×List D×Int×Int×(Int×Int×Int×PUnit)×(Int×Int×Int×PUnit)×Int×PUnit)×List (List D)×List (List D)×PUnit:=fun k B'=>
      ((b,live.map D.bool,d,split,(a.l,a.d,a.c,PUnit.unit),(to.l,to.d,to.c,PUnit.unit),(k:Int),PUnit.unit),P0 T0 b idx B',P1 T1 idx B',PUnit.unit)
    have hst:st 0 B=((b,live.map D.bool,d,split,(a.l,a.d,a.c,PUnit.unit),(to.l,to.d,to.c,PUnit.unit),0,PUnit.unit),P0 T0 b idx B,P1 T1 idx B,PUnit.unit):=rfl
    rw [←hst]
    have hrr:B.rRows live d a to split=(fun y:Int×Ben=>if y.1=0 then y.2.flush d else y) (runE (Ben.rStep live d a to split) 0 16 B):=rfl
    rw [hrr]
    refine zqT (Ben.rStep live d a to split) (fun k B'=>Nx k B B') st (fun y=>some (Ans.mk (.int .i64 (if y.1=0 then y.2.flush d else y).1) [] [P0 T0 b idx (if y.1=0 then y.2.flush d else y).2,P1 T1 idx (if y.1=0 then y.2.flush d else y).2])) 16 (by omega) (.rfl' h.ok (by omega)) ?_ ?_ ?_
    · rintro k B' hk' hx _
      unfold Ben.rStep
      split
      · exact hx.mono (by omega)
      · exact (hx.trans (zxa hx.ok (by omega) (by omega)).1).mono (by omega)
    · rintro again k B' hk' hx
      dsimp only [st]
      have hA:=h.nx hx
      have hxw:=hx.w
      have hw':B'.w≤1000000:=by omega
      have hk16:(k:Int) < 16:=by omega
      unfold Ben.rStep gAt
      by_cases hs:(k:Int) < split
      · rw [if_pos hs]
        by_cases hd:to.d≤d
        · rw [if_pos hd]
          simp (disch:=first | omega | assumption | (simp; done) | fail) [hk16,hs,hd,zao]
        · rw [if_neg hd]
          have hone:=rebuild_one hA hw' .lent live (d:=d) (g:=to) (r:=(k:Int)) (by omega) (by omega)
          by_cases he:(B'.rOne live d to k).1=0
          · simp (disch:=first | omega | assumption | (simp; done) | fail) [hk16,hs,hd,zao,hone,he]
          · simp (disch:=first | omega | assumption | (simp; done) | fail) [hk16,hs,hd,zao,hone,he]
      · rw [if_neg hs]
        by_cases hd:a.d≤d
        · rw [if_pos hd]
          simp (disch:=first | omega | assumption | (simp; done) | fail) [hk16,hs,hd,zao]
        · rw [if_neg hd]
          have hone:=rebuild_one hA hw' .lent live (d:=d) (g:=a) (r:=(k:Int)) (by omega) (by omega)
          by_cases he:(B'.rOne live d a k).1=0
          · simp (disch:=first | omega | assumption | (simp; done) | fail) [hk16,hs,hd,zao,hone,he]
          · simp (disch:=first | omega | assumption | (simp; done) | fail) [hk16,hs,hd,zao,hone,he]
    · rintro again B' hx
      dsimp only [st]
      have hA:=h.nx hx
      have hxw:=hx.w
      have hfl:=zA2 hA (by omega) d
      have hp:P0 T0 b idx (B'.flush d).2=P0 T0 b idx B':=by unfold Ben.flush; split<;>rfl
      simp [hfl,hp]
  by_cases c2:d < (live.length:Int)
  · have hgl:(live.map D.bool)[d.toNat]? =some (.bool ((live[d.toNat]?).getD false)):=by
      rw [List.getElem?_map,List.getElem?_eq_getElem (by omega)]; rfl
    generalize (live[d.toNat]?).getD false=lv at*
    cases lv with
    | true=>simp [c0,c1,c2,hl,zaj hgl,show 0≤d by omega]
    | false=>
      cases c4:mayR a to split
      · rw [c4] at hm
        simp [c0,c1,c2,hl,zaj hgl,show 0≤d by omega,hm]
      · rw [c4] at hm
        cases c5:B.failed d
        · rw [c5] at hf
          rw [if_neg (by simp; omega),if_neg (by simp)]
          refine Eq.trans ?_ (loop c4 c5 _ rfl)
          simp [c0,c1,c2,hl,zaj hgl,show 0≤d by omega,hm,hf]
        · rw [c5] at hf
          simp [c0,c1,c2,hl,zaj hgl,show 0≤d by omega,hm,hf]
  · have c3':(live[d.toNat]?).getD false=false:=by rw [List.getElem?_eq_none (by omega)]; rfl
    rw [c3']
    cases c4:mayR a to split
    · rw [c4] at hm
      simp [c0,c1,c2,hl,hm]
    · rw [c4] at hm
      cases c5:B.failed d
      · rw [c5] at hf
        rw [if_neg (by simp; omega),if_neg (by simp)]
        refine Eq.trans ?_ (loop c4 c5 _ rfl)
        simp [c0,c1,c2,hl,hm,hf]
      · rw [c5] at hf
        simp [c0,c1,c2,hl,hm,hf]
end
end Wf

namespace Wf
open Go Go.RowKit
set_option linter.unusedSimpArgs false
set_option linter.unusedVariables false
theorem zEJ {c r w m row j:Int} (hc:c=1∨c=2∨c=4) (hr:r=1∨r=2∨r=4) (hcr:c≤r) (hw:2≤w∧w≤7) (j0:0≤j) (j1:j < w) (h0:0≤row) (h:row < m*r):(row / c*w+j)*c+row % c < m*(r*w):=by
  have hw:w=2∨w=3∨w=4∨w=5∨w=6∨w=7:=by omega
  rcases hc with rfl | rfl | rfl<;>rcases hr with rfl | rfl | rfl<;>first | (exfalso; omega) | (rcases hw with rfl | rfl | rfl | rfl | rfl | rfl<;>omega)
theorem zCT {c r w m row j:Int} (hc:c=1∨c=2∨c=4) (hr:r=1∨r=2∨r=4) (hcr:c≤r) (hw:2≤w∧w≤7) (j0:0≤j) (j1:j < w) (h0:0≤row) (h:m*r≤row):m*(r*w)≤(row / c*w+j)*c+row % c:=by
  have hw:w=2∨w=3∨w=4∨w=5∨w=6∨w=7:=by omega
  rcases hc with rfl | rfl | rfl<;>rcases hr with rfl | rfl | rfl<;>first | (exfalso; omega) | (rcases hw with rfl | rfl | rfl | rfl | rfl | rfl<;>omega)
theorem zEK {x y:Geo} {k:Int} (h0:0≤k) (h1:k < winP x y):zok x y k=(k*(zcY x y*y.width),(k+1)*(zcY x y*y.width)):=by
  unfold zok; rw [if_neg (by omega)]
theorem zEL {x y:Geo} {k:Int} (h0:0≤k) (h1:k < winP x y):x.can y=true:=by
  cases h:x.can y
  · have:=(zEn h).2; omega
  · rfl
structure Win (x y:Geo) (k:Int):Prop where
  can:x.can y=true
  xok:x.ok=true
  yok:y.ok=true
  r:zcY x y=1∨zcY x y=2∨zcY x y=4
  xc:x.c≤zcY x y
  yc:y.c≤zcY x y
  r0:0≤k*zcY x y
  r1:(k+1)*zcY x y≤16
  rr:(k+1)*zcY x y=k*zcY x y+zcY x y
  s1:(zok x y k).1=k*(zcY x y*y.width)
  s2:(zok x y k).2=(k+1)*(zcY x y*y.width)
  ss:(zok x y k).2=(zok x y k).1+zcY x y*y.width
  s0:0≤(zok x y k).1
  se:(zok x y k).2≤y.cap
  m:2≤zcY x y*y.width∧zcY x y*y.width≤28
theorem zF4 {x y:Geo} {k:Int} (h0:0≤k) (h1:k < winP x y):Win x y k:=by
  have hc:=zEL h0 h1
  obtain ⟨k1,k2,k3,k4,k5,k6⟩:=zqW.1 hc
  obtain ⟨e1,e2⟩:=zAN hc
  obtain ⟨e3,e4,e5⟩:=zFH hc
  have hw:=zdd k2
  have hs:=zEK h0 h1
  have hx:=(zeL.1 k1).2.2
  have hy:=(zeL.1 k2).2.2
  have rr:(k+1)*zcY x y=k*zcY x y+zcY x y:=by rw [Int.add_mul,Int.one_mul]
  have ss:(k+1)*(zcY x y*y.width)=k*(zcY x y*y.width)+zcY x y*y.width:=by rw [Int.add_mul,Int.one_mul]
  have hm:2≤zcY x y*y.width∧zcY x y*y.width≤28:=by rcases e2 with e | e | e<;>rw [e]<;>omega
  have hr0:0≤k*zcY x y:=Int.mul_nonneg h0 (by omega)
  have hr1:(k+1)*zcY x y≤16:=by
    rw [←e5]
    exact Int.mul_le_mul_of_nonneg_right (by omega) (by omega)
  refine ⟨hc,k1,k2,e2,by omega,by omega,hr0,hr1,rr,by rw [hs],by rw [hs],by rw [hs]; exact ss,by rw [hs]; exact Int.mul_nonneg h0 (by omega),?_,hm⟩
  rw [hs]
  show (k+1)*(zcY x y*y.width)≤y.width*16
  rw [←Int.mul_assoc,Int.mul_comm y.width 16]
  exact Int.mul_le_mul_of_nonneg_right hr1 (by omega)
theorem zCU {x y:Geo} {k r j:Int} (h:Win x y k) (r0:k*zcY x y≤r) (r1:r < (k+1)*zcY x y) (j0:0≤j) (j1:j < y.width):(zok x y k).1≤numP y r j∧numP y r j < (zok x y k).2:=by
  have hw:=zdd h.yok
  have hy:=(zeL.1 h.yok).2.2
  have:=h.r0
  rw [h.s1,h.s2]
  unfold numP
  exact ⟨zCT hy h.r h.yc hw j0 j1 (by omega) r0,zEJ hy h.r h.yc hw j0 j1 (by omega) r1⟩
end Wf

namespace Wf
open Go Go.RowKit Go.Proofs
set_option linter.unusedSimpArgs false
set_option linter.unusedVariables false
set_option maxHeartbeats 4000000
theorem zCV (ls:List (List Int)) (l:List Int):pL (fP ls)++[D.sl .fresh (uL l)]=pL (fP (ls++[l])):=by simp [pL,fP]
section
variable (a to:Geo) (k:Int)
end
def Act.sec:Act→Prop
  | .w _ _ x=>Sec x
  | .f _=>True
def rowW (a to:Geo) (k:Int) (data:List (List Int)) (r:Int):List (List Int):=(List.range to.width.toNat).map fun (j:Nat)=>data.getD (numP to r j - (zok a to k).1).toNat []
section
variable {T0 T1:Tb} {b:Nat} {idx:List Nat} {B:Ben}
end
end Wf

namespace Wf
open Go Go.RowKit Go.Proofs
set_option linter.unusedSimpArgs false
set_option linter.unusedVariables false
set_option maxHeartbeats 4000000
theorem zs0 {σ:Type} {f g:Nat→σ→Int×σ} (I:Nat→σ→Prop):∀ (n k:Nat) (s:σ),I k s→(∀ j s,k≤j→j < k+n→I j s→f j s=g j s)→(∀ j s,k≤j→j < k+n→I j s→(f j s).1=0→I (j+1) (f j s).2)→runE f k n s=runE g k n s
  | 0,k,s,_,_,_=>rfl
  | n+1,k,s,hI,h1,h2=>by
    unfold runE
    have e:=h1 k s (by omega) (by omega) hI
    have h3:=h2 k s (by omega) (by omega) hI
    rw [←e]
    by_cases h0:(f k s).1=0
    · rw [if_pos h0,if_pos h0]
      exact zs0 I n (k+1) _ (h3 h0) (fun j s a b=>h1 j s (by omega) (by omega)) fun j s a b=>h2 j s (by omega) (by omega)
    · rw [if_neg h0,if_neg h0]
section
variable {B B':Ben} {live:List Bool}
def Act.d:Act→Int
  | .w d _ _=>d
  | .f d=>d
theorem zBu {e:Int} (e0:0≤e):∀ (l:List Act) {B:Ben},B.Ok→(∀ a∈l,a.Ok B)→(∀ a∈l,a.d≠e)→(does B l).nP e=B.nP e
  | [],B,_,_,_=>rfl
  | a::l,B,hB,h1,h2=>by
    have ha:=h1 a (List.mem_cons_self ..)
    show (does (B.does1 a) l).nP e=_
    rw [zBu e0 l (zlg hB ha).ok (fun c hc=>zpP hB ha (h1 c (List.mem_cons_of_mem _ hc))) fun c hc=>h2 c (List.mem_cons_of_mem _ hc),zyj ha e0]
    have:=h2 a (List.mem_cons_self ..)
    cases a with
    | w d a x=>exact if_neg (fun q=>this q.symm)
    | f d=>exact if_neg (fun q=>this q.symm)
end
section
variable {a to:Geo} {k:Int} {data:List (List Int)}
structure WinD (a to:Geo) (k:Int) (data:List (List Int)):Prop where
  k0:0≤k
  k1:k < winP a to
  len:(data.length:Int)=(zok a to k).2 - (zok a to k).1
  sec:∀ x∈data,Sec x
theorem WinD.win (h:WinD a to k data):Win a to k:=zF4 h.k0 h.k1
theorem WinD.row (h:WinD a to k data) {r:Int} (r0:k*zcY a to≤r) (r1:r < (k+1)*zcY a to):Row to (rowW a to k data r)∧zcF to r=true:=by
  have hW:=h.win
  have:=hW.r0
  have:=hW.r1
  have hyw:=zdd hW.yok
  have hl:=h.len
  refine ⟨⟨by simp [rowW]; omega,fun x hx=>?_⟩,zbM.2 ⟨hW.yok,by omega,by omega⟩⟩
  obtain ⟨j,hj,rfl⟩:=List.mem_map.1 hx
  have hj:=List.mem_range.1 hj
  obtain ⟨n0,n1⟩:=zCU hW r0 r1 (j:=(j:Int)) (by omega) (by omega)
  exact h.sec _ (zdq (by omega))
variable {B:Ben} {live:List Bool}
end
section
variable {U V:Tb} {b:Nat} {idx:List Nat} {B:Ben} {n:Nat} {K:Int}
theorem zEM (T0 T1:Tb) {n:Nat} (h0:1≤n) (h8:n≤8):∃ U V idx,
    zbr [.int .i64 n] [T0,T1]=some (Ans.mk (.tup [.h kB T0.length 0,.int .i64 0]) [] [P0 U T0.length idx (Ben.new n),P1 V idx (Ben.new n)])∧
    Run U V T0.length idx (Ben.new n) n 0∧Still (Ben.new n):=
  ⟨_,_,_,zFW T0 T1 h0 h8,⟨zBk T0 T1 h8,by simp [Ben.new,Ben.n],rfl,rfl,Int.le_refl _⟩,zv1 h8⟩
end
end Wf

namespace Wf
open Go Go.RowKit Go.Proofs
set_option linter.unusedSimpArgs false
set_option linter.unusedVariables false
set_option maxHeartbeats 4000000
end Wf

namespace Wf
open Go Go.RowKit Go.Proofs
set_option linter.unusedSimpArgs false
set_option linter.unusedVariables false
set_option maxHeartbeats 4000000
section
variable {B:Ben}
theorem zs1 {d a:Int} {x:List Int} (h:(B.write d a x).1=0):(B.write d a x).2.down=B.down∧∀ e b:Int,0≤e→e≠d→(B.write d a x).2.cur e b=B.cur e b:=by
  unfold Ben.write at h ⊢
  split at h
  · rename_i h0; exact absurd h h0
  rename_i h0
  rw [if_neg h0]
  split at h
  · rename_i h1; exact absurd h h1
  rename_i h1
  rw [if_neg h1]
  split at h
  · exact absurd (show (6:Int)=0 from h) (by decide)
  rename_i h2
  rw [if_neg h2]
  have hd:=may0.1 (Classical.not_not.1 h0)
  refine ⟨rfl,fun e b e0 he=>?_⟩
  unfold Ben.cur
  rw [zfo (by simpa using hd.1) e0,if_neg he]
  rfl
def rAct (dat:Nat→List (List Int)) (d:Int) (a to:Geo) (split:Int) (r:Nat):List Act:=if (gAt a to split r).d≤d then [] else [.w d (36+r) (atR (gAt a to split r) r (dat r) d)]
def zjT (dat:Nat→List (List Int)) (d:Int) (a to:Geo) (split:Int) (m:Nat):List Act:=(List.range m).flatMap (rAct dat d a to split)
def zzh (B:Ben) (live:List Bool) (d:Int) (a to:Geo) (split:Int) (dat:Nat→List (List Int)):Prop:=
  ∀ r:Nat,r < 16→d < (gAt a to split r).d→Row (gAt a to split r) (dat r)∧(B.lostN live (gAt a to split r):Int)≤(gAt a to split r).l - 4∧
    ∀ e:Int,0≤e→e < (gAt a to split r).d→B.up live e=true→B.cur e (36+r)=atR (gAt a to split r) r (dat r) e
theorem zyl {a to:Geo} {split:Int}:mayR a to split=true↔a.ok=true∧0≤split∧split≤16∧(split=0∨to.ok=true):=by unfold mayR; simp [and_assoc]
theorem zv5 {a to:Geo} {split:Int} (h:mayR a to split=true) (r:Nat):(gAt a to split r).ok=true:=by
  obtain ⟨h1,h2,h3,h4⟩:=zyl.1 h
  unfold gAt
  split
  · exact h4.resolve_left (by omega)
  · exact h1
theorem zpU {a to:Geo} {split:Int} (h:mayR a to split=true) {r:Nat} (hr:r < 16):zcF (gAt a to split r) r=true:=zbM.2 ⟨zv5 h r,by omega,by omega⟩
theorem Like.lostN {B':Ben} (h:Like B B') (live:List Bool) (g:Geo):B'.lostN live g=B.lostN live g:=by unfold Ben.lostN; simp only [h.up]
theorem zym {live:List Bool} {d:Int} (h:(live[d.toNat]?).getD false=false):B.up live d=false:=by unfold Ben.up; rw [h]; simp
theorem zzi (hB:B.Ok) (hdn:B.down=false) {live:List Bool} {d:Int} {a to:Geo} {split:Int} {dat:Nat→List (List Int)} (d0:0≤d) (d1:d < B.n) (hl:(live[d.toNat]?).getD false=false) (hm:mayR a to split=true)
    (hf:B.failed d=false) (hS:zzh B live d a to split dat):B.rDisk live d a to split=runA (zjT dat d a to split 16++[.f d]) B:=by
  unfold Ben.rDisk
  rw [if_neg (by rw [hl,hm]; simp; omega),hf,if_neg (by simp)]
  unfold Ben.rRows
  have hrows:runE (Ben.rStep live d a to split) 0 16 B=runA (zjT dat d a to split 16) B:=by
    unfold zjT
    rw [zs0 (g:=fun r B'=>runA (rAct dat d a to split r) B') (fun _ B'=>B'.Ok∧Like B B'∧B'.down=false∧∀ e b:Int,0≤e→e≠d→B'.cur e b=B.cur e b) _ _ _ ⟨hB,.refl B,hdn,fun _ _ _ _=>rfl⟩ ?_ ?_,znX,List.range_eq_range']
    · rintro r B' _ hr ⟨hB',hL,hdn',hc⟩
      unfold Ben.rStep rAct
      split
      · rfl
      · rename_i hd
        obtain ⟨hR,hlo,hrow⟩:=hS r (by omega) (by omega)
        have hrd:=ztX (B:=B') (live:=live) (zpU hm (r:=r) (by omega)) hR hdn' fun e e0 e1 hu=>by
          rw [hL.up] at hu
          rw [hc e _ e0 (by rintro rfl; rw [zym hl] at hu; cases hu),hrow e e0 e1 hu]
        rw [hL.lostN,if_pos hlo] at hrd
        unfold Ben.rOne
        rw [hrd,if_neg (by simp),zln]
        rfl
    · rintro r B' _ hr ⟨hB',hL,hdn',hc⟩ he
      unfold Ben.rStep at he ⊢
      split
      · exact ⟨hB',hL,hdn',hc⟩
      · rename_i hd
        rw [if_neg hd] at he
        obtain ⟨hx,hL2⟩:=zxa hB' (live:=live) (d:=d) (g:=gAt a to split r) (r:=r) d0 (by omega)
        unfold Ben.rOne at he hx hL2 ⊢
        split at he
        · rename_i h0; exact absurd he h0
        · rename_i h0
          rw [if_neg h0] at hx hL2 ⊢
          obtain ⟨h1,h2⟩:=zs1 he
          exact ⟨hx.ok,hL.trans hL2,h1.trans hdn',fun e b e0 hne=>(h2 e b e0 hne).trans (hc e b e0 hne)⟩
  rw [hrows,zml]
  by_cases h0:(runA (zjT dat d a to split 16) B).1=0
  · rw [if_pos h0,if_pos h0,zln]; rfl
  · rw [if_neg h0,if_neg h0]
theorem zv6 {dat:Nat→List (List Int)} {d:Int} {a to:Geo} {split:Int} {m:Nat} {x:Act} (h:x∈zjT dat d a to split m):∃ r:Nat,r < m∧d < (gAt a to split r).d∧x=.w d (36+r) (atR (gAt a to split r) r (dat r) d):=by
  obtain ⟨r,hr,hx⟩:=List.mem_flatMap.1 h
  have hr:=List.mem_range.1 hr
  unfold rAct at hx
  split at hx
  · cases hx
  · exact ⟨r,hr,by omega,List.mem_singleton.1 hx⟩
theorem zCW {live:List Bool} {d:Int} {a to:Geo} {split:Int} {dat:Nat→List (List Int)} (d0:0≤d) (d1:d < B.n) (hm:mayR a to split=true) (hf:B.failed d=false) (hS:zzh B live d a to split dat):∀ x∈zjT dat d a to split 16++[.f d],x.Ok B:=by
  have his:B.is d=true:=zdR.2 ⟨d0,d1⟩
  intro x hx
  rcases List.mem_append.1 hx with hx | hx
  · obtain ⟨r,hr,hd,rfl⟩:=zv6 hx
    exact ⟨his,hf,by omega,by omega,zqY (zpU hm hr) (hS r hr hd).1 d0 hd⟩
  · rw [List.mem_singleton.1 hx]; exact ⟨his,hf⟩
theorem zCX {dat:Nat→List (List Int)} {d:Int} {a to:Geo} {split:Int}:nW (zjT dat d a to split 16++[.f d])≤16:=by
  have:∀ m,nW (zjT dat d a to split m)≤m:=by
    intro m
    induction m with
    | zero=>simp [nW,zjT]
    | succ m ih=>
      unfold zjT at ih ⊢
      rw [List.range_succ,List.flatMap_append,zqV]
      have:nW (List.flatMap (rAct dat d a to split) [m])≤1:=by
        simp only [List.flatMap_cons,List.flatMap_nil,List.append_nil]
        unfold rAct
        split
        · simp [nW]
        · exact Nat.le_trans (List.length_filter_le _ _) (by simp)
      omega
  rw [zqV]
  have:=this 16
  have:nW [Act.f d]=0:=rfl
  omega
theorem zzj {dat:Nat→List (List Int)} {d:Int} {a to:Geo} {split:Int} {e b:Int} (c:Int→Int→List Int):
    curs c (zjT dat d a to split 16++[.f d]) e b=if e=d∧36≤b∧b < 52∧d < (gAt a to split (b - 36).toNat).d then atR (gAt a to split (b - 36).toNat) (b - 36) (dat (b - 36).toNat) d else c e b:=by
  have key:∀ m:Nat,curs c (zjT dat d a to split m) e b=if e=d∧36≤b∧b < 36+m∧d < (gAt a to split (b - 36).toNat).d then atR (gAt a to split (b - 36).toNat) (b - 36) (dat (b - 36).toNat) d else c e b:=by
    intro m
    induction m with
    | zero=>rw [if_neg (by omega)]; rfl
    | succ m ih=>
      unfold zjT at ih ⊢
      rw [List.range_succ,List.flatMap_append,zmm]
      simp only [List.flatMap_cons,List.flatMap_nil,List.append_nil]
      have hra:rAct dat d a to split m=if (gAt a to split m).d≤d then [] else [.w d (36+m) (atR (gAt a to split m) m (dat m) d)]:=rfl
      rw [hra]
      split
      · rename_i hd
        show curs c _ e b=_
        rw [ih]
        by_cases hb:b=36+m
        · rw [if_neg (by omega),if_neg (by rintro ⟨_,_,_,h⟩; rw [show (b - 36).toNat=m by omega] at h; omega)]
        · by_cases hc:e=d∧36≤b∧b < 36+m∧d < (gAt a to split (b - 36).toNat).d
          · rw [if_pos hc,if_pos ⟨hc.1,hc.2.1,by omega,hc.2.2.2⟩]
          · rw [if_neg hc,if_neg (fun q=>hc ⟨q.1,q.2.1,by omega,q.2.2.2⟩)]
      · rename_i hd
        show (if e=d∧b=36+m then _ else curs c _ e b)=_
        rw [ih]
        by_cases hb:e=d∧b=36+m
        · have e1:(b - 36).toNat=m:=by omega
          have e2:b - 36=m:=by omega
          rw [if_pos hb,if_pos ⟨hb.1,by omega,by omega,by rw [e1]; omega⟩,e1,e2]
        · rw [if_neg hb]
          by_cases hc:e=d∧36≤b∧b < 36+m∧d < (gAt a to split (b - 36).toNat).d
          · rw [if_pos hc,if_pos ⟨hc.1,hc.2.1,by omega,hc.2.2.2⟩]
          · rw [if_neg hc,if_neg (fun q=>hc ⟨q.1,q.2.1,by omega,q.2.2.2⟩)]
  rw [zmm]
  show curs c (zjT dat d a to split 16) e b=_
  rw [key]
  rfl
end
section
variable {U V:Tb} {b:Nat} {idx:List Nat} {B:Ben} {n:Nat} {K:Int}
theorem Run.rebuild (h:Run U V b idx B n K) (hK:K≤900000) (tg:Tag) {live:List Bool} {d:Int} {a to:Geo} {split:Int} {dat:Nat→List (List Int)} (d0:0≤d) (d1:d < n) (hl:(live[d.toNat]?).getD false=false) (hm:mayR a to split=true)
    (hf:B.failed d=false) (hS:zzh B live d a to split dat):∃ B1,
    zaR [.h kB b 0,.sl tg (live.map D.bool),.int .i64 d,.agg [.int .i64 a.l,.int .i64 a.d,.int .i64 a.c],.agg [.int .i64 to.l,.int .i64 to.d,.int .i64 to.c],.int .i64 split] [P0 U b idx B,P1 V idx B]=some (Ans.mk (.int .i64 0) [] [P0 U b idx B1,P1 V idx B1])∧
    Run U V b idx B1 n (K+16)∧(∀ e,B1.failed e=B.failed e)∧
    (∀ e x:Int,0≤e→0≤x→x < 52→B1.cur e x=if e=d∧36≤x∧d < (gAt a to split (x - 36).toNat).d then atR (gAt a to split (x - 36).toNat) (x - 36) (dat (x - 36).toNat) d else B.cur e x)∧
    (∀ e:Int,0≤e→B1.nP e=if e=d then 0 else B.nP e):=by
  have hw:=h.w
  have hr:=zkZ h.at' (by omega) tg live d a to split
  have d1':d < B.n:=by rw [h.num]; exact d1
  have hok:=zCW d0 d1' hm hf hS
  have hDo:=zpQ (zjT dat d a to split 16++[.f d]) h.at'.ok h.down hok (.inl (by rw [h.left]; omega))
  rw [zzi h.at'.ok h.down d0 d1' hl hm hf hS,hDo.run] at hr
  have hn:=zCX (dat:=dat) (d:=d) (a:=a) (to:=to) (split:=split)
  have hnx:=hDo.nx.w
  refine ⟨_,hr,⟨h.at'.nx hDo.nx,hDo.nx.n.trans h.num,hDo.down.trans h.down,by rw [hDo.left,h.left]; rfl,by show (does B (zjT dat d a to split 16++[.f d])).w≤K+16; omega⟩,hDo.failed,fun e x e0 x0 x1=>?_,fun e e0=>?_⟩
  · rw [hDo.cur e x e0 x0 x1,zzj]
    by_cases hc:e=d∧36≤x∧d < (gAt a to split (x - 36).toNat).d
    · rw [if_pos hc,if_pos ⟨hc.1,hc.2.1,x1,hc.2.2⟩]
    · rw [if_neg hc,if_neg (fun q=>hc ⟨q.1,q.2.1,q.2.2.2⟩)]
  · by_cases he:e=d
    · rw [if_pos he,zwJ]
      have h2:=zEI h.at'.ok (as':=zjT dat d a to split 16) fun x hx=>hok x (List.mem_append_left _ hx)
      show ((does B (zjT dat d a to split 16)).does1 (.f d)).nP e=0
      rw [zyj (h2.2 _ (hok _ (List.mem_append_right _ (List.mem_singleton.2 rfl)))) e0]
      exact if_pos he
    · rw [if_neg he]
      refine zBu e0 _ h.at'.ok hok fun x hx=>?_
      rcases List.mem_append.1 hx with hx | hx
      · obtain ⟨r,_,_,rfl⟩:=zv6 hx; exact fun q=>he q.symm
      · rw [List.mem_singleton.1 hx]; exact fun q=>he q.symm
end
end Wf

namespace Wf
open Go Go.RowKit Go.Proofs
set_option linter.unusedSimpArgs false
set_option linter.unusedVariables false
set_option maxHeartbeats 4000000
theorem zBv {ks:List Bool} {k:Nat} (h:k < ks.length):(ks.map D.bool)[k]? =some (.bool ((ks[k]?).getD false)):=by
  rw [List.getElem?_map,List.getElem?_eq_getElem h]; rfl
section
variable {T:Tb} {i:Nat} {s:DS}
end
section
variable {B:Ben}
end
section
variable {T0 T1:Tb} {b:Nat} {idx:List Nat} {B:Ben}
end
end Wf

namespace Wf
open Go Go.RowKit Go.Proofs
set_option linter.unusedSimpArgs false
set_option linter.unusedVariables false
set_option maxHeartbeats 4000000
section
variable {T0 T1:Tb} {b:Nat} {idx:List Nat} {B:Ben}
structure Aside (U V:Tb) (b:Nat) (idx:List Nat) (b2:Nat) (idx2:List Nat) (C:Ben):Prop where
  ne:b2≠b
  lt:b2 < U.length
  row:U[b2]? =some (bRow C idx2)
  nd:idx2.Nodup
  len:idx2.length=C.ds.length
  ok:C.Ok
  g:C.g=[]
  dis:∀ i∈idx2,i ∉ idx
  cells:∀ (j i:Nat) (c:List D),idx2[j]? =some i→(C.ds.map DS.cells)[j]? =some c→V[i]? =some c
theorem Aside.vlt {U V:Tb} {b:Nat} {idx:List Nat} {b2:Nat} {idx2:List Nat} {C:Ben} (h:Aside U V b idx b2 idx2 C):∀ i∈idx2,i < V.length:=fun i hi=>by
  obtain ⟨j,hj,rfl⟩:=List.mem_iff_getElem.1 hi
  have h2:=h.cells j idx2[j] ((C.ds.map DS.cells)[j]'(by rw [List.length_map,←h.len]; exact hj)) (List.getElem?_eq_getElem hj) (List.getElem?_eq_getElem _)
  exact (List.getElem?_eq_some_iff.1 h2).1
theorem Aside.at' {U V:Tb} {b:Nat} {idx:List Nat} {b2:Nat} {idx2:List Nat} {C:Ben} (h:Aside U V b idx b2 idx2 C) (B1:Ben):At (P0 U b idx B1) (P1 V idx B1) b2 idx2 C:=by
  have e0:∀ X:Tb,(P0 X b idx B1).length=X.length:=fun X=>zFG
  have e1:∀ X:Tb,(P1 X idx B1).length=X.length+B1.g.length:=fun X=>zvx
  exact ⟨by rw [e0]; exact h.lt,h.nd,fun i hi=>by rw [e1]; have:=h.vlt i hi; omega,h.len,h.ok⟩
theorem Aside.p0 {U V:Tb} {b:Nat} {idx:List Nat} {b2:Nat} {idx2:List Nat} {C:Ben} (h:Aside U V b idx b2 idx2 C) (B1:Ben):P0 (P0 U b idx B1) b2 idx2 C=P0 U b idx B1:=by
  refine zAJ ?_
  unfold P0
  rw [List.getElem?_set,if_neg (fun q=>h.ne q.symm)]
  exact h.row
theorem Aside.get {U V:Tb} {b:Nat} {idx:List Nat} {b2:Nat} {idx2:List Nat} {C:Ben} (h:Aside U V b idx b2 idx2 C) (B1:Ben) {i:Nat} (hi:i∈idx2):(P1 V idx B1)[i]? =V[i]? :=by
  unfold P1
  rw [List.getElem?_append_left (by rw [znp]; exact h.vlt i hi),zsF _ _ _ (h.dis i hi)]
theorem Aside.p1 {U V:Tb} {b:Nat} {idx:List Nat} {b2:Nat} {idx2:List Nat} {C:Ben} (h:Aside U V b idx b2 idx2 C) (B1:Ben):P1 (P1 V idx B1) idx2 C=P1 V idx B1:=by
  show putL _ _ (C.ds.map DS.cells)++C.g=_
  rw [h.g,List.append_nil]
  refine znq fun j i c h1 h2=>?_
  rw [h.get B1 (List.mem_of_getElem? h1)]
  exact h.cells j i c h1 h2
def Ben.clean (B:Ben):Ben:={ B with g:=[] }
theorem zCY (h:B.Ok):B.clean.Ok:=⟨h.w0,h.lf,h.small,h.ds⟩
theorem zBw (h:At T0 T1 b idx B) {d:Int} (hd:B.is d=true) (hf:B.failed d=true):
    zaX [.h kB b 0,.int .i64 d] [P0 T0 b idx B,P1 T1 idx B]=some (Ans.mk (.int .i64 0) []
      [(P0 T0 b idx B).set b [.int .i64 B.w,.int .i64 B.left,.bool B.down,.sl .own ((idx.set d.toNat (P1 T1 idx B).length).map hD)],P1 T1 idx B++[DS.new.cells]]):=by
  rw [ziy]
  unfold zdX
  obtain ⟨h0,h1⟩:=zdR.1 hd
  have h1':d.toNat < idx.length:=by have:=h.len; unfold Ben.n at h1; omega
  have hrow:(P0 T0 b idx B)[b]? =some [.int .i64 B.w,.int .i64 B.left,.bool B.down,.sl .own (idx.map hD)]:=h.get0
  have hdf:=zx4 (h.get1 hd) (zju h.ok d).1
  rw [zfO hd] at hf
  rw [hf] at hdf
  have i1:(D.h kD (ix idx d) 0).isAgg=false:=rfl
  have i2:(D.h kD (ix idx d) 0).width=1:=rfl
  have i3:(D.h kD (ix idx d) 0).cell=true:=rfl
  have hnew:=zFL (P1 T1 idx B)
  have hst:=ztE (o:=3) (x:=D.sl .own ((idx.map hD).set d.toNat (D.h kD (P1 T1 idx B).length 0))) hrow
  have hms:(idx.map hD).set d.toNat (D.h kD (P1 T1 idx B).length 0)=(idx.set d.toNat (P1 T1 idx B).length).map hD:=by rw [List.map_set]; rfl
  have hH:∀ f:Nat→Option Ans,asH 7649 (D.h kD (P1 T1 idx B).length 0) f=f (P1 T1 idx B).length:=fun f=>zGs ..
  simp (disch:=first | omega | assumption | (simp; done) | fail) only [zcQ,b_is h d,hd,zac,zbP,zch,Bool.not_true,zas,zaj hrow,zfL,znh,zbI,zaa,List.length_map,Nat.zero_add,zaj (h.hd hd),i1,i2,i3,hdf,hnew,zc1,zCS,hH,zoe]
  have:setT (P0 T0 b idx B) b 3 (D.sl .own ((idx.map hD).set d.toNat (D.h 7649 (P1 T1 idx B).length 0)))=(P0 T0 b idx B).set b [.int .i64 B.w,.int .i64 B.left,.bool B.down,.sl .own ((idx.set d.toNat (P1 T1 idx B).length).map hD)]:=by
    refine hst.trans ?_
    rw [hms]; rfl
  rw [this]
end
section
variable {U V:Tb} {b:Nat} {idx:List Nat} {B:Ben} {n:Nat} {K:Int}
theorem Run.replace (h:Run U V b idx B n K) {d:Int} (d0:0≤d) (d1:d < n) (hf:B.failed d=true):∃ V' idx' B1,
    zaX [.h kB b 0,.int .i64 d] [P0 U b idx B,P1 V idx B]=some (Ans.mk (.int .i64 0) [] [P0 U b idx' B1,P1 V' idx' B1])∧Run U V' b idx' B1 n K∧B1.w=B.w∧(∀ e:Int,0≤e→B1.dk e=if e=d then .new else B.dk e)∧∀ b2 idx2 C,Aside U V b idx b2 idx2 C→Aside U V' b idx' b2 idx2 C:=by
  have hd:=h.is d0 d1
  have hA:=h.at'
  have hr:=zBw hA hd hf
  have hlen:=hA.len
  have hl:d.toNat < idx.length:=by have h1:=(zdR.1 hd).2; unfold Ben.n at h1; omega
  let idx':=idx.set d.toNat (P1 V idx B).length
  let B1:Ben:=(B.setD d .new).clean
  have hfresh:(P1 V idx B).length ∉ idx:=fun hm=>by have:=hA.lt _ hm; rw [zvx] at this; omega
  have hnd:idx'.Nodup:=by
    rw [List.nodup_iff_pairwise_ne,List.pairwise_iff_getElem]
    intro i j hi hj hij
    have hi':i < idx.length:=by simpa [idx'] using hi
    have hj':j < idx.length:=by simpa [idx'] using hj
    show (idx.set d.toNat (P1 V idx B).length)[i]≠(idx.set d.toNat (P1 V idx B).length)[j]
    rw [List.getElem_set,List.getElem_set]
    by_cases e1:d.toNat=i
    · rw [if_pos e1,if_neg (by omega)]
      intro q; exact hfresh (by rw [q]; exact List.getElem_mem _)
    · rw [if_neg e1]
      by_cases e2:d.toNat=j
      · rw [if_pos e2]
        intro q; exact hfresh (by rw [←q]; exact List.getElem_mem _)
      · rw [if_neg e2]
        exact List.pairwise_iff_getElem.1 (List.nodup_iff_pairwise_ne.1 hA.nd) i j hi' hj' hij
  have hok:B1.Ok:=zCY (zmk hA.ok zAF hA.ok.w0)
  have hat:At U (P1 V idx B++[DS.new.cells]) b idx' B1:=by
    refine ⟨hA.b,hnd,fun i hi=>?_,?_,hok⟩
    · rw [List.length_append]
      rcases List.mem_or_eq_of_mem_set hi with hi | hi
      · have:=hA.lt i hi; rw [zvx]; omega
      · rw [hi]; simp
    · show (idx.set d.toNat _).length=(B.ds.set d.toNat .new).length
      rw [List.length_set,List.length_set]; exact hlen
  refine ⟨P1 V idx B++[DS.new.cells],idx',B1,?_,⟨hat,?_,h.down,h.left,h.w⟩,rfl,fun e e0=>?_,fun b2 idx2 C hC=>?_⟩
  · rw [hr]
    have e1:P0 U b idx' B1=(P0 U b idx B).set b [.int .i64 B.w,.int .i64 B.left,.bool B.down,.sl .own ((idx.set d.toNat (P1 V idx B).length).map hD)]:=by
      unfold P0
      rw [List.set_set]
      rfl
    have e2:P1 (P1 V idx B++[DS.new.cells]) idx' B1=P1 V idx B++[DS.new.cells]:=by
        show putL _ idx' ((B.ds.set d.toNat .new).map DS.cells)++[]=_
        rw [List.append_nil]
        refine znq fun j i c h1 h2=>?_
        have hj:j < idx.length:=by have:=(List.getElem?_eq_some_iff.1 h1).1; simpa [idx'] using this
        show (P1 V idx B++[DS.new.cells])[i]? =some c
        rw [List.getElem?_map,List.getElem?_set] at h2
        have h1:(idx.set d.toNat (P1 V idx B).length)[j]? =some i:=h1
        rw [List.getElem?_set] at h1
        by_cases e:d.toNat=j
        · rw [if_pos e,if_pos hl] at h1
          rw [if_pos e,if_pos (by omega)] at h2
          cases h1; cases h2
          rw [List.getElem?_append_right (Nat.le_refl _),Nat.sub_self]; rfl
        · rw [if_neg e] at h1 h2
          have hdj:B.is (j:Int)=true:=zdR.2 ⟨by omega,by unfold Ben.n; omega⟩
          have hg:=hA.get1 hdj
          have hi:=hA.ixl hdj
          rw [Int.toNat_natCast,h1] at hi
          rw [←Option.some.inj hi] at hg
          rw [List.getElem?_append_left (List.getElem?_eq_some_iff.1 hg).1,hg]
          have hdk:=hA.dks hdj
          rw [Int.toNat_natCast,List.getElem?_map] at hdk
          rw [←hdk]; exact h2
    rw [e1,e2]
  · show (B.setD d .new).n=_
    rw [zDf]; exact h.num
  · show (B.setD d .new).dk e=_
    exact zfo hd e0 _
  · refine ⟨hC.ne,hC.lt,hC.row,hC.nd,hC.len,hC.ok,hC.g,fun i hi hm=>?_,fun j i c h1 h2=>?_⟩
    · rcases List.mem_or_eq_of_mem_set hm with hm | hm
      · exact hC.dis i hi hm
      · have:=hC.vlt i hi
        rw [hm,zvx] at this; omega
    · have hi:=List.mem_of_getElem? h1
      have hlt:=hC.vlt i hi
      rw [List.getElem?_append_left (by rw [zvx]; omega),hC.get B hi]
      exact hC.cells j i c h1 h2
theorem Aside.read {b2:Nat} {idx2:List Nat} {C:Ben} (h:Aside U V b idx b2 idx2 C) (hw:C.w≤1000000) (B1:Ben) (d a:Int):
    zax [.h kB b2 0,.int .i64 d,.int .i64 a] [P0 U b idx B1,P1 V idx B1]=some (Ans.mk (.tup [.sl .own (uL (C.read d a).1),.int .i64 (C.read d a).2]) [] []):=by
  have:=zx6 (h.at' B1) hw d a
  rw [h.p0,h.p1] at this
  exact this
end
end Wf

namespace Wf
open Go Go.RowKit Go.Proofs
set_option linter.unusedSimpArgs false
set_option linter.unusedVariables false
set_option maxHeartbeats 4000000
section
variable {T0 T1:Tb}
theorem both {a to:Geo} {split:Int} (hm:mayR a to split=true) {n:Nat} (n0:1≤n) (n8:n≤8) (tg:Tag) (l:List Int):
    zbi [.agg [.int .i64 a.l,.int .i64 a.d,.int .i64 a.c],.agg [.int .i64 to.l,.int .i64 to.d,.int .i64 to.c],.int .i64 split,.int .i64 n,.sl tg (intL l)] [T0,T1]=
      some (Ans.mk (.h kB T0.length 0) [] [P0 (nT0 T0 T1 n) T0.length (nIdx T1 n) (ziD (gAt a to split) l n 16),P1 (nT1 T1 n) (nIdx T1 n) (ziD (gAt a to split) l n 16)]):=by
  rw [zkS,zqI]
  unfold ze8
  have hat0:=zBk T0 T1 n8
  have hnew:=zFW T0 T1 n0 n8
  generalize nT0 T0 T1 n=U0 at*
  generalize nT1 T1 n=U1 at*
  generalize nIdx T1 n=idx at*
  have hkk:=zv5 hm
  have hF:=fun R hR=>zkX (gs:=gAt a to split) (l:=l) n8 hkk R hR
  have hat:∀ B:Ben,B.Ok→B.n=n→At U0 U1 T0.length idx B:=fun B hB hn=>⟨hat0.b,hat0.nd,hat0.lt,by rw [hat0.len]; unfold Ben.n at hn; simp [Ben.new]; omega,hB⟩
  simp (disch:=first | omega | assumption | (simp; done) | fail) only [zcQ,hnew,zac,zbP,zc1,zgO,zrs,zbj,zqK,zAn,zas,show zh7 (D.h kB T0.length 0)=true from rfl,zaa]
  let st:Nat→(Int×Int×List D×(Int×Int×Int×PUnit)×(Int×Int×Int×PUnit)×D×Int×PUnit)×List (List D)×List (List D)×PUnit:=fun r=>((split,(n:Int),intL l,(a.l,a.d,a.c,PUnit.unit),(to.l,to.d,to.c,PUnit.unit),.h kB T0.length 0,(r:Int),PUnit.unit),P0 U0 T0.length idx (ziD (gAt a to split) l n r),P1 U1 idx (ziD (gAt a to split) l n r),PUnit.unit)
  show zcd _ (st 0)=_
  refine zcM st 16 (by omega) ?_ ?_
  · intro again r hr
    dsimp only [st]
    have hk:=hkk r
    have hw:=zdd hk
    have hdd:=ok_d hk
    have hr16:(r:Int) < 16:=by omega
    rw [zvp hr16]
    refine zBs (fun x=>x=(((split,(n:Int),intL l,(a.l,a.d,a.c,PUnit.unit),(to.l,to.d,to.c,PUnit.unit),.h kB T0.length 0,(r:Int),((gAt a to split r).l,(gAt a to split r).d,(gAt a to split r).c,PUnit.unit),PUnit.unit),P0 U0 T0.length idx (ziD (gAt a to split) l n r),P1 U1 idx (ziD (gAt a to split) l n r),PUnit.unit))) ?_ ?_
    rotate_left
    · intro j hj
      by_cases hs:(r:Int) < split
      · rw [zvp hs]
        refine hj _ ?_
        have:gAt a to split r=to:=by unfold gAt; rw [if_pos hs]
        rw [this]
      · rw [ztF hs]
        refine hj _ ?_
        have:gAt a to split r=a:=by unfold gAt; rw [if_neg hs]
        rw [this]
    rintro _ rfl
    dsimp only
    have hfine:zcF (gAt a to split r) (r:Int)=true:=zbM.2 ⟨hk,by omega,by omega⟩
    have hm1:0≤min (r:Int) (l.length:Int):=by omega
    have hm2:min (r:Int) (l.length:Int)≤(l.length:Int):=by omega
    have hsp:=fun tg=>zvW tg (l.drop (min r l.length)) (n:=(gAt a to split r).width.toNat) (by omega)
    rw [show (((gAt a to split r).width.toNat:Nat):Int)=(gAt a to split r).width by omega] at hsp
    have hc:=zBm l (r:Int) (by omega)
    rw [Int.toNat_natCast] at hc
    have hfill:=zCI (gAt a to split r) (r:Int) .lent (ps:=fP (rowL (gAt a to split r) l r)) (by simp [rowL]; omega) (by intro x hx; obtain ⟨y,hy,rfl⟩:=List.mem_map.1 hx; exact zyc _ _ y hy)
    rw [zsT,zqZ hfine (zur hk l r)] at hfill
    have hFr:=hF r (by omega)
    have hdm:=fun k hk'=>zoU (gs:=gAt a to split) hFr hr hk k hk'
    have hnx:ziD (gAt a to split) l n (r+1)=(ziD (gAt a to split) l n r).dmgs (36+(r:Int)) (zcN (gAt a to split r) r (rowL (gAt a to split r) l r)) (min (gAt a to split r).d.toNat n):=rfl
    rw [hnx]
    generalize ziD (gAt a to split) l n r=B at*
    generalize gAt a to split r=g at*
    have hrl:=zlj g (r:Int) (rowL g l r)
    unfold rowL at hfill
    simp (disch:=first | omega | assumption | (simp; done) | fail) only [zcQ,zaO,zgr,zaa,zzc,zoS,zac,zbj,hc,hsp,zbI,zdg,Nat.zero_add,Nat.le_refl,hfill,solD,zgO,zrs,zch]
    have hxs:secL (l.drop (min r l.length)) g.width.toNat=rowL g l r:=rfl
    rw [hxs]
    have h0:∀ k,k≤min g.d.toNat n→P0 U0 T0.length idx (B.dmgs (36+(r:Int)) (zcN g r (rowL g l r)) k)=P0 U0 T0.length idx B:=by
      intro k hk'
      induction k with
      | zero=>rfl
      | succ k ih=>
        rw [←ih (by omega)]
        show P0 U0 T0.length idx ((B.dmgs (36+(r:Int)) (zcN g r (rowL g l r)) k).damage _ _ _).2=_
        unfold Ben.damage
        split<;>rfl
    let s2:Nat→(Int×Int×List D×(Int×Int×Int×PUnit)×(Int×Int×Int×PUnit)×D×Int×List D×Bool×Int×PUnit)×List (List D)×List (List D)×PUnit:=fun k=>
      ((split,(n:Int),intL l,(a.l,a.d,a.c,PUnit.unit),(to.l,to.d,to.c,PUnit.unit),.h kB T0.length 0,(r:Int),pL (fP (zcN g r (rowL g l r))),true,(k:Int),PUnit.unit),P0 U0 T0.length idx B,P1 U1 idx (B.dmgs (36+(r:Int)) (zcN g r (rowL g l r)) k),PUnit.unit)
    show zcd _ (s2 0)=_
    refine zcM s2 (min g.d.toNat n) (by omega) ?_ ?_
    · intro again2 k hk'
      dsimp only [s2]
      obtain ⟨i1,i2,i3,i4,i5⟩:=hdm k (by omega)
      have hA:=hat _ i1.ok i2
      have hg:(pL (fP (zcN g r (rowL g l r))))[k]? =some (.sl .fresh (uL (atR g r (rowL g l r) k))):=zcB (zsU (zid (by omega)))
      have hb:=zCy hA (by omega) (k:Int) (a:=36+(r:Int)) (by intro w hw; rw [(i1.dk _).2] at hw; cases hw) .fresh (atR g r (rowL g l r) k)
      rw [h0 k (by omega)] at hb
      have hgd:(zcN g r (rowL g l r)).getD k []=atR g r (rowL g l r) k:=zrv (by omega)
      have h1:(k:Int) < ((g.d.toNat:Nat):Int):=by omega
      have h2:(k:Int) < (n:Int):=by omega
      have h3:k < g.d.toNat:=by omega
      simp (disch:=first | omega | assumption | (simp; done) | fail) [hrl,h1,h2,h3,zaj hg,hb,zao]
      rw [←hgd]; rfl
    · intro again2
      dsimp only [s2]
      rw [h0 _ (Nat.le_refl _)]
      by_cases h1:min g.d.toNat n < g.d.toNat
      · have h2:¬ ((min g.d.toNat n:Nat):Int) < (n:Int):=by omega
        have h1':((min g.d.toNat n:Nat):Int) < ((g.d.toNat:Nat):Int):=by omega
        simp (disch:=first | omega | assumption | (simp; done) | fail) only [zcQ,za0,hrl,zvS,zBa,zaa,Nat.zero_add,Nat.le_refl,zvp,ztF,zvq]
        rfl
      · have h1':¬ ((min g.d.toNat n:Nat):Int) < ((g.d.toNat:Nat):Int):=by omega
        simp (disch:=first | omega | assumption | (simp; done) | fail) only [zcQ,za0,hrl,zvS,zBa,zaa,Nat.zero_add,Nat.le_refl,ztF,zvq]
        rfl
  · intro again
    dsimp only [st]
    simp (disch:=first | omega | assumption | (simp; done) | fail) only [zcQ,ztF,show (D.h kB T0.length 0).free=true from rfl,zaa]
end
theorem zCZ (T0 T1:Tb) {a to:Geo} {split:Int} (hm:mayR a to split=true) {n:Nat} (n0:1≤n) (n8:n≤8) (tg:Tag) (l:List Int):∃ U V idx B,
    zbi [.agg [.int .i64 a.l,.int .i64 a.d,.int .i64 a.c],.agg [.int .i64 to.l,.int .i64 to.d,.int .i64 to.c],.int .i64 split,.int .i64 n,.sl tg (intL l)] [T0,T1]=some (Ans.mk (.h kB T0.length 0) [] [P0 U T0.length idx B,P1 V idx B])∧
    Run U V T0.length idx B n 0∧Still B∧B.w=0∧(∀ (d:Int) (r:Nat),0≤d→d < n→r < 16→d < (gAt a to split r).d→B.cur d (36+r)=atR (gAt a to split r) r (rowL (gAt a to split r) l r) d)∧
    (∀ d x:Int,0≤d→0≤x→x < 52→(x < 36∨(gAt a to split (x - 36).toNat).d≤d)→B.cur d x=zfN):=by
  have hF:=zkX (gs:=gAt a to split) (l:=l) n8 (zv5 hm) 16 (by omega)
  have hat0:=zBk T0 T1 n8
  refine ⟨_,_,_,_,both hm n0 n8 tg l,⟨⟨hat0.b,hat0.nd,hat0.lt,?_,hF.still.ok⟩,hF.num,hF.still.down,hF.left,by rw [hF.w]; omega⟩,hF.still,hF.w,fun d r d0 d1 r1 hd=>?_,fun d x d0 x0 x1 hx=>?_⟩
  · have:=hF.num; unfold Ben.n at this; rw [hat0.len]; simp [Ben.new]; omega
  · have e:((36:Int)+r - 36).toNat=r:=by omega
    have e2:(36:Int)+r - 36=r:=by omega
    rw [hF.cur d (36+r) d0 (by omega) (by omega),e,e2,if_pos ⟨by omega,by omega,hd,d1⟩]
  · rw [hF.cur d x d0 x0 x1,if_neg (fun q=>by omega)]
end Wf

namespace Wf
open Go Go.RowKit Go.Proofs
set_option linter.unusedSimpArgs false
set_option linter.unusedVariables false
set_option maxHeartbeats 4000000
theorem zv7 (l:List Bool) (i:Nat) (b:Bool):(l.map D.bool).set i (.bool b)=(l.set i b).map D.bool:=by rw [List.map_set]
theorem zxb {n:Nat} {d e:Int} (d0:0≤d) (e0:0≤e):(((List.replicate n true).set d.toNat false)[e.toNat]?).getD false=(decide (e < n) && !decide (e=d)):=by
  rw [List.getElem?_set]
  by_cases h:d.toNat=e.toNat
  · rw [if_pos h]
    have:e=d:=by omega
    simp [this]
    split<;>rfl
  · rw [if_neg h,List.getElem?_replicate]
    have h2:¬ e=d:=by omega
    by_cases h3:e < n
    · rw [if_pos (by omega)]; simp [h2,h3]
    · rw [if_neg (by omega)]; simp [h3]
theorem zDn {B:Ben} {n:Nat} (hn:B.n=n) {d e:Int} (d0:0≤d) (e0:0≤e):B.up ((List.replicate n true).set d.toNat false) e=(decide (e < n) && !decide (e=d) && !B.failed e):=by
  unfold Ben.up
  rw [zxb d0 e0,hn]
  cases decide (e < (n:Int))<;>simp
theorem zyn {B:Ben} {live:List Bool} {g:Geo} {d:Int} (hg:0≤g.d) (h:∀ e:Int,0≤e→e < g.d→e≠d→B.up live e=true):B.lostN live g≤1:=by
  unfold Ben.lostN
  refine zBn (a:=d.toNat) fun i hi hp=>?_
  by_cases he:(i:Int)=d
  · omega
  · rw [h i (by omega) (by omega) he] at hp; cases hp
section
variable {U V:Tb} {b:Nat} {idx:List Nat} {B:Ben} {n:Nat} {K:Int}
theorem Run.rebuild_bad (h:Run U V b idx B n K) (hK:K≤900000) (tg:Tag) {live:List Bool} {d:Int} {a to:Geo} {split:Int} (hb:d < 0∨n≤d∨(live[d.toNat]?).getD false=true∨mayR a to split=false):
    zaR [.h kB b 0,.sl tg (live.map D.bool),.int .i64 d,.agg [.int .i64 a.l,.int .i64 a.d,.int .i64 a.c],.agg [.int .i64 to.l,.int .i64 to.d,.int .i64 to.c],.int .i64 split] [P0 U b idx B,P1 V idx B]=some (Ans.mk (.int .i64 1) [] [P0 U b idx B,P1 V idx B]):=by
  rw [zkZ h.at' (by have:=h.w; omega) tg live d a to split]
  unfold Ben.rDisk
  rw [if_pos (by rw [h.num]; exact hb)]
theorem zzk {live:List Bool} {d:Int} {a to:Geo} {split:Int} (hm:mayR a to split=true) (hz:∀ e x:Int,0≤e→36≤x→x < 52→B.cur e x=zfN)
    (hl:∀ r:Nat,r < 16→B.lostN live (gAt a to split r)≤1):zzh B live d a to split fun r=>zmS (gAt a to split r):=by
  intro r hr hd
  have hk:=zv5 hm r
  have hll:=zeL.1 hk
  have:=hl r hr
  exact ⟨zCP hk,by omega,fun e e0 e1 _=>by rw [hz e _ e0 (by omega) (by omega),zED (zpU hm hr) e0 e1]⟩
end
theorem zEN:za3 []=some (.bool true):=by
  have e:=zjH
  rw [e,zaa (by rfl)]
  unfold zeD
  obtain ⟨U,V,idx,hnew,hB,hS⟩:=zEM [] [] (n:=3) (by omega) (by omega)
  simp only [List.length_nil] at hnew hB
  have hm:mayR ⟨5,3,1⟩ ⟨0,0,0⟩ 0=true:=by decide
  have h1:=hB.rebuild_bad (by omega) .full (live:=[true,true,true]) (d:=1) (a:=⟨5,3,1⟩) (to:=⟨0,0,0⟩) (split:=0) (.inr (.inr (.inl (by decide))))
  have hup:∀ e:Int,0≤e→e < 3→e≠1→(Ben.new 3).up [true,false,true] e=true:=by
    intro e e0 e1 e2
    have:=zDn (B:=Ben.new 3) (n:=3) hB.num (d:=1) (e:=e) (by omega) e0
    refine this.trans ?_
    rw [hS.failed]; simp; omega
  obtain ⟨B1,h2,_⟩:=hB.rebuild (by omega) .full (live:=[true,false,true]) (d:=1) (a:=⟨5,3,1⟩) (to:=⟨0,0,0⟩) (split:=0) (by omega) (by omega) (by decide) hm (hS.failed 1) (zzk hm (fun e x e0 x0 x1=>zw6 3 e (by omega) x1) fun r hr=>by
    have:gAt ⟨5,3,1⟩ ⟨0,0,0⟩ 0 r=⟨5,3,1⟩:=by unfold gAt; rw [if_neg (by omega)]
    rw [this]
    exact zyn (d:=1) (by decide) hup)
  have hnew':zbr [.int .i64 3] [[],[]]=some (Ans.mk (.tup [.h kB 0 0,.int .i64 0]) [] [P0 U 0 idx (Ben.new 3),P1 V idx (Ben.new 3)]):=hnew
  have h1':zaR [.h kB 0 0,.sl .full [.bool true,.bool true,.bool true],.int .i64 1,.agg [.int .i64 5,.int .i64 3,.int .i64 1],.agg [.int .i64 0,.int .i64 0,.int .i64 0],.int .i64 0] [P0 U 0 idx (Ben.new 3),P1 V idx (Ben.new 3)]=some (Ans.mk (.int .i64 1) [] [P0 U 0 idx (Ben.new 3),P1 V idx (Ben.new 3)]):=h1
  have h2':zaR [.h kB 0 0,.sl .full [.bool true,.bool false,.bool true],.int .i64 1,.agg [.int .i64 5,.int .i64 3,.int .i64 1],.agg [.int .i64 0,.int .i64 0,.int .i64 0],.int .i64 0] [P0 U 0 idx (Ben.new 3),P1 V idx (Ben.new 3)]=some (Ans.mk (.int .i64 0) [] [P0 U 0 idx B1,P1 V idx B1]):=h2
  simp [hnew',h1',h2',zh7]
end Wf

namespace Wf
open Go Go.RowKit Go.Proofs
set_option linter.unusedSimpArgs false
set_option linter.unusedVariables false
set_option maxHeartbeats 4000000
section
variable {U V:Tb} {b:Nat} {idx:List Nat} {B:Ben} {n:Nat} {K:Int}
theorem zC0 {d a:Int} (hd:B.is d=true) (hdn:B.down=false) (hf:B.failed d=false) (a0:0≤a) (a1:a < 52):B.read d a=(B.cur d a,0):=by
  unfold Ben.read
  rw [may0.2 ⟨hd,hdn⟩,if_neg (by simp)]
  unfold DS.read
  rw [zfO hd] at hf
  rw [zoi.2 ⟨hf,a0,a1⟩,if_neg (by simp)]
  rfl
theorem Run.bread (h:Run U V b idx B n K) (hK:K≤900000) {d a:Int} (d0:0≤d) (d1:d < n) (hf:B.failed d=false) (a0:0≤a) (a1:a < 52):
    zax [.h kB b 0,.int .i64 d,.int .i64 a] [P0 U b idx B,P1 V idx B]=some (Ans.mk (.tup [.sl .own (uL (B.cur d a)),.int .i64 0]) [] []):=by
  have:=zx6 h.at' (by have:=h.w; omega) d a
  rw [zC0 (h.is d0 d1) h.down hf a0 a1] at this
  exact this
theorem Run.pend (h:Run U V b idx B n K) (hK:K≤900000) (hn:∀ e:Int,0≤e→B.nP e=0):zaY [.h kB b 0] [P0 U b idx B,P1 V idx B]=some (Ans.mk (.int .i64 0) [] []):=by
  have:=zA3 h.at' (by have:=h.w; omega)
  rw [zv4 fun j _=>hn j (by omega)] at this
  exact this
def zBx (B:Ben) (live:List Bool) (d:Int) (a to:Geo) (split:Int) (dat:Nat→List (List Int)):Prop:=
  ∀ r:Nat,r < 16→d < (gAt a to split r).d→Row (gAt a to split r) (dat r)∧∀ e:Int,0≤e→e < (gAt a to split r).d→B.up live e=true→B.cur e (36+r)=atR (gAt a to split r) r (dat r) e
theorem zzl (hB:B.Ok) (hdn:B.down=false) (hlf:B.left < 0) {live:List Bool} {d:Int} {a to:Geo} {split:Int} {dat:Nat→List (List Int)} (d0:0≤d) (d1:d < B.n) (hl:(live[d.toNat]?).getD false=false) (hm:mayR a to split=true)
    (hf:B.failed d=false) (hS:zBx B live d a to split dat) (hno:¬ zzh B live d a to split dat):(B.rDisk live d a to split).1=7:=by
  unfold Ben.rDisk
  rw [if_neg (by rw [hl,hm]; simp; omega),hf,if_neg (by simp)]
  unfold Ben.rRows
  have key:(runE (Ben.rStep live d a to split) 0 16 B).1=7:=by
    refine zxW (f:=Ben.rStep live d a to split) (I:=fun k B'=>(B'.Ok∧Like B B'∧B'.down=false∧B'.left < 0∧∀ e b:Int,0≤e→e≠d→B'.cur e b=B.cur e b)∧∀ r:Nat,r < k→d < (gAt a to split r).d→(B.lostN live (gAt a to split r):Int)≤(gAt a to split r).l - 4) ?_ (Q:=fun y=>y.1=7) ⟨⟨hB,.refl B,hdn,hlf,fun _ _ _ _=>rfl⟩,fun r hr=>by omega⟩ ?_ ?_
    · rintro k B' ⟨⟨hB',hL,hdn',hlf',hc⟩,hlo⟩ he
      unfold Ben.rStep at he ⊢
      by_cases hd:(gAt a to split k).d≤d
      · rw [if_pos hd]
        refine ⟨⟨hB',hL,hdn',hlf',hc⟩,fun r hr hdr=>?_⟩
        by_cases e:r=k
        · subst e; omega
        · exact hlo r (by omega) hdr
      · rw [if_neg hd] at he ⊢
        obtain ⟨hx,hL2⟩:=zxa hB' (live:=live) (d:=d) (g:=gAt a to split k) (r:=k) d0 (by omega)
        unfold Ben.rOne at he hx hL2 ⊢
        by_cases h0:(B'.sRead live (gAt a to split k) k).2=0
        · rw [if_neg (by simp [h0])] at he hx hL2 ⊢
          obtain ⟨h1,h2⟩:=zs1 he
          obtain ⟨hR0,hfin⟩:=zrw hB' h0
          have hk16:k < 16:=by have:=(zbM.1 hfin).2.2; omega
          have hleft:(B'.write d (36+k) (atR (gAt a to split k) k (B'.sRead live (gAt a to split k) k).1 d)).2.left < 0:=by
            have hok:(Act.w d (36+k) (atR (gAt a to split k) k (B'.sRead live (gAt a to split k) k).1 d)).Ok B':=⟨zdR.2 ⟨d0,by rw [hL.1]; exact d1⟩,by rw [hL.2]; exact hf,by omega,by omega,zqY hfin hR0 d0 (by omega)⟩
            have hact:=ztT hok hdn' (fun _=>by omega)
            show ((B'.act (Act.w d (36+k) (atR (gAt a to split k) k (B'.sRead live (gAt a to split k) k).1 d))).2).left < 0
            rw [hact]
            show (if 0 < B'.left then B'.left - 1 else B'.left) < 0
            rw [if_neg (by omega)]; exact hlf'
          refine ⟨⟨hx.ok,hL.trans hL2,h1.trans hdn',hleft,fun e b e0 hne=>(h2 e b e0 hne).trans (hc e b e0 hne)⟩,fun r hr hdr=>?_⟩
          by_cases e:r=k
          · subst e
            obtain ⟨hR,hrow⟩:=hS r hk16 hdr
            have hrd:=ztX (B:=B') (live:=live) hfin hR hdn' fun e e0 e1 hu=>by
              rw [hL.up] at hu
              rw [hc e _ e0 (by rintro rfl; rw [zym hl] at hu; cases hu),hrow e e0 e1 hu]
            rw [hL.lostN] at hrd
            refine Classical.byContradiction fun hq=>?_
            rw [if_neg hq] at hrd
            rw [hrd] at h0
            exact absurd h0 (by decide)
          · exact hlo r (by omega) hdr
        · rw [if_pos h0] at he
          exact absurd he h0
    · rintro B' ⟨_,hlo⟩
      refine absurd ?_ hno
      intro r hr hdr
      obtain ⟨hR,hrow⟩:=hS r hr hdr
      exact ⟨hR,hlo r (by omega) hdr,hrow⟩
    · rintro k B' hk ⟨⟨hB',hL,hdn',hlf',hc⟩,hlo⟩ he
      unfold Ben.rStep at he ⊢
      by_cases hd:(gAt a to split k).d≤d
      · rw [if_pos hd] at he; exact absurd rfl he
      · rw [if_neg hd] at he ⊢
        obtain ⟨hR,hrow⟩:=hS k (by omega) (by omega)
        have hfin:=zpU hm (r:=k) (by omega)
        have hrd:=ztX (B:=B') (live:=live) hfin hR hdn' fun e e0 e1 hu=>by
          rw [hL.up] at hu
          rw [hc e _ e0 (by rintro rfl; rw [zym hl] at hu; cases hu),hrow e e0 e1 hu]
        unfold Ben.rOne at he ⊢
        rw [hrd] at he ⊢
        split at he
        · rename_i hq
          rw [if_pos hq]
          rw [if_neg (by simp)] at he ⊢
          have hok:(Act.w d (36+k) (atR (gAt a to split k) k (dat k) d)).Ok B':=⟨zdR.2 ⟨d0,by rw [hL.1]; exact d1⟩,by rw [hL.2]; exact hf,by omega,by omega,zqY hfin hR d0 (by omega)⟩
          have hact:=ztT hok hdn' (fun _=>by omega)
          exact absurd (show (B'.act (Act.w d (36+k) (atR (gAt a to split k) k (dat k) d))).1=0 by rw [hact]) he
        · rename_i hq
          rw [if_neg hq,if_pos (by simp)]
  rw [key,if_neg (by decide),key]
end
end Wf

namespace Wf
open Go Go.RowKit Go.Proofs
set_option linter.unusedSimpArgs false
set_option linter.unusedVariables false
set_option maxHeartbeats 4000000
section
variable {U V:Tb} {b:Nat} {idx:List Nat} {B:Ben} {n:Nat} {K:Int}
end
end Wf

namespace Wf
open Go Go.RowKit Go.Proofs
set_option linter.unusedSimpArgs false
set_option linter.unusedVariables false
set_option maxHeartbeats 4000000
section
variable {B:Ben}
end
section
variable {T0 T1:Tb} {b:Nat} {idx:List Nat} {B:Ben}
end
end Wf

namespace Wf
open Go Go.RowKit Go.Proofs
set_option linter.unusedVariables false
set_option maxRecDepth 100000
def zd0:Ann:={ loops:=[(1,[.dead,.dead,.val (.cell (.int .i64)),.dead,.val (.cell (.int .i64)),.val (.cell (.int .i64)),.dead,.dead,.dead,.dead,.dead,.dead,.dead,.box true [(.int .i64),(.int .i64),(.int .i64)],.box true [(.int .i64),(.int .i64),(.int .i64)],.ptr 3840,.own 1,.own 1,.val (.cell (.int .i64))]),(4,[.dead,.dead,.val (.cell (.int .i64)),.dead,.val (.cell (.int .i64)),.dead,.dead,.dead,.dead,.dead,.dead,.dead,.dead,.box true [(.int .i64),(.int .i64),(.int .i64)],.box true [(.int .i64),(.int .i64),(.int .i64)],.ptr 3840,.own 1,.own 1,.dead,.dead,.dead,.val (.cell (.int .i64))]),(8,[.dead,.dead,.val (.cell (.int .i64)),.dead,.val (.cell (.int .i64)),.dead,.dead,.dead,.dead,.dead,.dead,.dead,.dead,.box true [(.int .i64),(.int .i64),(.int .i64)],.dead,.ptr 3840,.dead,.own 1,.dead,.dead,.dead,.dead,.dead,.dead,.val (.cell (.int .i64))]),(10,[.dead,.dead,.val (.cell (.int .i64)),.dead,.val (.cell (.int .i64)),.dead,.dead,.dead,.dead,.dead,.dead,.dead,.dead,.box true [(.int .i64),(.int .i64),(.int .i64)],.dead,.ptr 3840,.dead,.own 1,.dead,.dead,.dead,.dead,.dead,.dead,.val (.cell (.int .i64)),.val (.cell .sl)]),(5,[.dead,.dead,.val (.cell (.int .i64)),.dead,.val (.cell (.int .i64)),.dead,.dead,.dead,.dead,.dead,.dead,.dead,.dead,.box true [(.int .i64),(.int .i64),(.int .i64)],.box true [(.int .i64),(.int .i64),(.int .i64)],.ptr 3840,.own 1,.own 1,.dead,.dead,.dead,.val (.cell (.int .i64))])],ks:=[(3840,true),(7649,true)] }
noncomputable def zda:List D→Option D:=denT Try.prog (zay [(ID.wattleplay_Pair,(.pure [0,0] zbv)),(ID.wattlekeep_Within,(.pure [0] zab)),(ID.wattlelaw16_Both,(.st [] [0] [(3840,true),(7649,true)] zbi)),(ID.wattleplay_Live,(.pure [1] zbw)),(ID.bench_Bench_Read,(.st [] [1,0] [(3840,false),(7649,false)] zax)),(ID.bench_Bench_Fail,(.st [] [0] [(3840,false),(7649,true)] zbg)),(ID.bench_Bench_Replace,(.st [] [0] [(3840,true),(7649,true)] zaX)),(ID.rebuild_Disk,(.st [] [0] [(3840,true),(7649,true)] zaR)),(ID.wattlelaw16_wakes,(.pure [0] za3)),(ID.bench_Bench_Pending,(.st [] [0] [(3840,false),(7649,false)] zaY)),(ID.wattlekeep_Same_byte,(.pure [0] zaP))]) zd0 [0] ID.wattlelaw16_RebuildRows
theorem sound_wattlelaw16_RebuildRows:za7 Try.prog ID.wattlelaw16_RebuildRows (.pure [0] zda):=zsz (zaC [zlu,zcS,zkR,zlw,zfU,zkG,zix,ziq,zjG,ziz,zhL]) zbB ⟨Try.f10,by kernel_rfl,by kernel_rfl,by kernel_rfl⟩
noncomputable def zdb (zbv:List D→Option D) (zab:List D→Option D) (zbi:List D→List Tb→Option Ans) (zbw:List D→Option D) (zax:List D→List Tb→Option Ans) (zbg:List D→List Tb→Option Ans) (zaX:List D→List Tb→Option Ans) (zaR:List D→List Tb→Option Ans) (za3:List D→Option D) (zaY:List D→List Tb→Option Ans) (zaP:List D→Option D) (a0:Int) (a1:Int) (a2:Int) (a3:List D) (a4:Int) (a5:Int):Option D:=
  zar (zbv [D.int IntKind.i64 a0,D.int IntKind.i64 a1]) fun r1=>
  zd5 r1 fun ts2=>
  zaw ([Lf.any,Lf.any]) ts2 fun c3=>
  asAgg c3.fst fun cs4=>
  zaw ([Lf.int IntKind.i64,Lf.int IntKind.i64,Lf.int IntKind.i64]) cs4 fun c5=>
  asAgg c3.snd.fst fun cs6=>
  zaw ([Lf.int IntKind.i64,Lf.int IntKind.i64,Lf.int IntKind.i64]) cs6 fun c7=>
  zar (zab [D.int IntKind.i64 a2,D.int IntKind.i64 (17:Int)]) fun r8=>
  asI IntKind.i64 r8 fun i9=>
  zar (zbi [D.agg [D.int IntKind.i64 c5.fst,D.int IntKind.i64 c5.snd.fst,D.int IntKind.i64 c5.snd.snd.fst],D.agg [D.int IntKind.i64 c7.fst,D.int IntKind.i64 c7.snd.fst,D.int IntKind.i64 c7.snd.snd.fst],D.int IntKind.i64 i9,D.int IntKind.i64 c7.snd.fst,D.sl Tag.lent a3] [[],[]]) fun r10=>
  nilK r10.outs <|
  zcq r10.tbs fun c11 q12=>
  zcq q12 fun c13 q14=>
  nilK q14 <|
  sif (zh7 r10.r=true) <|
  zn5 r10.r fun b15=>
  brK b15
    (some (D.bool false))
    (zar (zab [D.int IntKind.i64 a4,D.int IntKind.i64 c7.snd.fst]) fun r16=>
    asI IntKind.i64 r16 fun i17=>
    zar (zbw [D.int IntKind.i64 (0:Int),D.int IntKind.i64 c7.snd.fst]) fun r18=>
    za4 r18 fun l19=>
    sif (List.length l19=List.length l19) <|
    zcd (α:=(Int×Int×Int×(Int×Int×Int×PUnit)×(Int×Int×Int×PUnit)×D×List D×List D×Int×PUnit)×List (List D)×List (List D)×PUnit) (fun again20 ((i21,(i22,(i23,((i24,(i25,(i26,_))),((i27,(i28,(i29,_))),(x30,(l31,(l32,(i33,_))))))))),(U34,(U35,_)))=>
      brK (decide (i33 < (16:Int)))
        (letN (IntKind.wrap IntKind.i64 ((36:Int)+i33)) fun n36=>
        zar (zax [x30,D.int IntKind.i64 i22,D.int IntKind.i64 n36] [U34,U35]) fun r37=>
        nilK r37.outs <|
        nilK r37.tbs <|
        zd5 r37.r fun ts38=>
        zaw ([Lf.any,Lf.any]) ts38 fun c39=>
        za4 c39.fst fun l40=>
        asI IntKind.i64 c39.snd.fst fun i41=>
        sif ((0:Nat)+List.length l40≤List.length l40) <|
        sif (List.length l32+(1:Nat)≤(4294967296:Nat)) <|
        sif (List.length l32=List.length l32) <|
        letN (IntKind.wrap IntKind.i64 (i33+(1:Int))) fun n42=>
        sif (List.length l31=List.length l31) <|
        sif (List.length l32+(1:Nat)=List.length (l32++[D.sl Tag.fresh (cut (0:Nat) (List.length l40) l40)])) <|
        again20 (((i21,i22,i23,(i24,i25,i26,PUnit.unit),(i27,i28,i29,PUnit.unit),x30,l31,l32++[D.sl Tag.fresh (cut (0:Nat) (List.length l40) l40)],n42,PUnit.unit),U34,U35,PUnit.unit)))
        (zar (zbg [x30,D.int IntKind.i64 i22] [U34,U35]) fun r43=>
        nilK r43.outs <|
        zcq r43.tbs fun c44 q45=>
        nilK q45 <|
        asI IntKind.i64 r43.r fun i46=>
        brK (i46 != (0:Int))
          (some (D.bool false))
          (zar (zaX [x30,D.int IntKind.i64 i22] [U34,c44]) fun r47=>
          nilK r47.outs <|
          zcq r47.tbs fun c48 q49=>
          zcq q49 fun c50 q51=>
          nilK q51 <|
          asI IntKind.i64 r47.r fun i52=>
          brK (i52 != (0:Int))
            (some (D.bool false))
            (sif ((0:Int)≤i22) <|
            sif (Int.toNat i22 < List.length l31) <|
            getK l31 ((0:Nat)+Int.toNat i22) fun d53=>
            sif (D.isAgg d53=false) <|
            zar (zab [D.int IntKind.i64 i23,D.int IntKind.i64 (3:Int)]) fun r54=>
            asI IntKind.i64 r54 fun i55=>
            jn (α:=(Int×Int×(Int×Int×Int×PUnit)×(Int×Int×Int×PUnit)×D×List D×List D×Int×PUnit)×List (List D)×List (List D)×PUnit) (fun a56=>
                sif ((0:Nat)+List.length a56.fst.snd.snd.snd.snd.snd.fst≤List.length a56.fst.snd.snd.snd.snd.snd.fst) <|
                zar (zaR [a56.fst.snd.snd.snd.snd.fst,D.sl Tag.lent (cut (0:Nat) (List.length a56.fst.snd.snd.snd.snd.snd.fst) a56.fst.snd.snd.snd.snd.snd.fst),D.int IntKind.i64 a56.fst.snd.fst,D.agg [D.int IntKind.i64 a56.fst.snd.snd.fst.fst,D.int IntKind.i64 a56.fst.snd.snd.fst.snd.fst,D.int IntKind.i64 a56.fst.snd.snd.fst.snd.snd.fst],D.agg [D.int IntKind.i64 a56.fst.snd.snd.snd.fst.fst,D.int IntKind.i64 a56.fst.snd.snd.snd.fst.snd.fst,D.int IntKind.i64 a56.fst.snd.snd.snd.fst.snd.snd.fst],D.int IntKind.i64 a56.fst.fst] [a56.snd.fst,a56.snd.snd.fst]) fun r57=>
                nilK r57.outs <|
                zcq r57.tbs fun c58 q59=>
                zcq q59 fun c60 q61=>
                nilK q61 <|
                asI IntKind.i64 r57.r fun i62=>
                brK (i62 == (7:Int))
                  (brK (decide (a56.fst.snd.snd.snd.snd.snd.snd.snd.fst > (1:Int)))
                    (brK (a56.fst.snd.snd.fst.fst == (5:Int))
                      (zar (za3 []) fun r63=>
                      asB r63 fun b64=>
                      some (D.bool b64))
                      (brK (a56.fst.snd.snd.snd.fst.fst == (5:Int))
                        (zar (za3 []) fun r65=>
                        asB r65 fun b66=>
                        some (D.bool b66))
                        (some (D.bool false))))
                    (some (D.bool false)))
                  (brK (i62 != (0:Int))
                    (some (D.bool false))
                    (zar (zaY [a56.fst.snd.snd.snd.snd.fst] [c58,c60]) fun r67=>
                    nilK r67.outs <|
                    nilK r67.tbs <|
                    asI IntKind.i64 r67.r fun i68=>
                    brK (i68 != (0:Int))
                      (some (D.bool false))
                      (sif (List.length a56.fst.snd.snd.snd.snd.snd.snd.fst=List.length a56.fst.snd.snd.snd.snd.snd.snd.fst) <|
                      zcd (α:=(Int×Int×(Int×Int×Int×PUnit)×D×List D×Int×PUnit)×List (List D)×List (List D)×PUnit) (fun again69 ((i70,(i71,((i72,(i73,(i74,_))),(x75,(l76,(i77,_)))))),(U78,(U79,_)))=>
                        brK (decide (i77 < (16:Int)))
                          (sif ((0:Int)≤i77) <|
                          sif (Int.toNat i77 < List.length l76) <|
                          getK l76 ((0:Nat)+Int.toNat i77) fun d80=>
                          asSl d80 fun t81 l82=>
                          brK (decide (i71≥i73))
                            (jn (α:=(Int×Int×(Int×Int×Int×PUnit)×D×List D×Int×(Tag×List D)×PUnit)×List (List D)×List (List D)×PUnit) (fun a83=>
                                letN (IntKind.wrap IntKind.i64 ((36:Int)+a83.fst.snd.snd.snd.snd.snd.fst)) fun n84=>
                                zar (zax [a83.fst.snd.snd.snd.fst,D.int IntKind.i64 a83.fst.snd.fst,D.int IntKind.i64 n84] [a83.snd.fst,a83.snd.snd.fst]) fun r85=>
                                nilK r85.outs <|
                                nilK r85.tbs <|
                                zd5 r85.r fun ts86=>
                                zaw ([Lf.any,Lf.any]) ts86 fun c87=>
                                za4 c87.fst fun l88=>
                                asI IntKind.i64 c87.snd.fst fun i89=>
                                brK (i89 != (0:Int))
                                  (some (D.bool false))
                                  (sif ((0:Nat)+List.length l88≤List.length l88) <|
                                  zar (zaP [D.sl Tag.lent (cut (0:Nat) (List.length l88) l88),D.sl a83.fst.snd.snd.snd.snd.snd.snd.fst.fst a83.fst.snd.snd.snd.snd.snd.snd.fst.snd]) fun r90=>
                                  asB r90 fun b91=>
                                  brK (!b91)
                                    (some (D.bool false))
                                    (letN (IntKind.wrap IntKind.i64 (a83.fst.snd.snd.snd.snd.snd.fst+(1:Int))) fun n92=>
                                    sif (List.length a83.fst.snd.snd.snd.snd.fst=List.length a83.fst.snd.snd.snd.snd.fst) <|
                                    again69 (((a83.fst.fst,a83.fst.snd.fst,(a83.fst.snd.snd.fst.fst,a83.fst.snd.snd.fst.snd.fst,a83.fst.snd.snd.fst.snd.snd.fst,PUnit.unit),a83.fst.snd.snd.snd.fst,a83.fst.snd.snd.snd.snd.fst,n92,PUnit.unit),a83.snd.fst,a83.snd.snd.fst,PUnit.unit)))))
                              (fun j93=>
                              brK (decide (i77≥i70))
                                (sif (List.length l76=List.length l76) <|
                                j93 (((i70,i71,(i72,i73,i74,PUnit.unit),x75,l76,i77,(Tag.fresh,[D.int IntKind.u8 (0:Int),D.int IntKind.u8 (0:Int),D.int IntKind.u8 (0:Int),D.int IntKind.u8 (0:Int),D.int IntKind.u8 (0:Int),D.int IntKind.u8 (0:Int),D.int IntKind.u8 (0:Int),D.int IntKind.u8 (0:Int),D.int IntKind.u8 (0:Int),D.int IntKind.u8 (0:Int),D.int IntKind.u8 (0:Int),D.int IntKind.u8 (0:Int),D.int IntKind.u8 (0:Int),D.int IntKind.u8 (0:Int),D.int IntKind.u8 (0:Int),D.int IntKind.u8 (0:Int),D.int IntKind.u8 (0:Int),D.int IntKind.u8 (0:Int),D.int IntKind.u8 (0:Int),D.int IntKind.u8 (0:Int),D.int IntKind.u8 (0:Int),D.int IntKind.u8 (0:Int),D.int IntKind.u8 (0:Int),D.int IntKind.u8 (0:Int),D.int IntKind.u8 (0:Int),D.int IntKind.u8 (0:Int),D.int IntKind.u8 (0:Int),D.int IntKind.u8 (0:Int),D.int IntKind.u8 (0:Int),D.int IntKind.u8 (0:Int),D.int IntKind.u8 (0:Int),D.int IntKind.u8 (0:Int)]),PUnit.unit),U78,U79,PUnit.unit)))
                                (sif (List.length l76=List.length l76) <|
                                j93 (((i70,i71,(i72,i73,i74,PUnit.unit),x75,l76,i77,(t81,l82),PUnit.unit),U78,U79,PUnit.unit)))))
                            (jn (α:=(Int×Int×(Int×Int×Int×PUnit)×D×List D×Int×(Tag×List D)×PUnit)×List (List D)×List (List D)×PUnit) (fun a94=>
                                letN (IntKind.wrap IntKind.i64 ((36:Int)+a94.fst.snd.snd.snd.snd.snd.fst)) fun n95=>
                                zar (zax [a94.fst.snd.snd.snd.fst,D.int IntKind.i64 a94.fst.snd.fst,D.int IntKind.i64 n95] [a94.snd.fst,a94.snd.snd.fst]) fun r96=>
                                nilK r96.outs <|
                                nilK r96.tbs <|
                                zd5 r96.r fun ts97=>
                                zaw ([Lf.any,Lf.any]) ts97 fun c98=>
                                za4 c98.fst fun l99=>
                                asI IntKind.i64 c98.snd.fst fun i100=>
                                brK (i100 != (0:Int))
                                  (some (D.bool false))
                                  (sif ((0:Nat)+List.length l99≤List.length l99) <|
                                  zar (zaP [D.sl Tag.lent (cut (0:Nat) (List.length l99) l99),D.sl a94.fst.snd.snd.snd.snd.snd.snd.fst.fst a94.fst.snd.snd.snd.snd.snd.snd.fst.snd]) fun r101=>
                                  asB r101 fun b102=>
                                  brK (!b102)
                                    (some (D.bool false))
                                    (letN (IntKind.wrap IntKind.i64 (a94.fst.snd.snd.snd.snd.snd.fst+(1:Int))) fun n103=>
                                    sif (List.length a94.fst.snd.snd.snd.snd.fst=List.length a94.fst.snd.snd.snd.snd.fst) <|
                                    again69 (((a94.fst.fst,a94.fst.snd.fst,(a94.fst.snd.snd.fst.fst,a94.fst.snd.snd.fst.snd.fst,a94.fst.snd.snd.fst.snd.snd.fst,PUnit.unit),a94.fst.snd.snd.snd.fst,a94.fst.snd.snd.snd.snd.fst,n103,PUnit.unit),a94.snd.fst,a94.snd.snd.fst,PUnit.unit)))))
                              (fun j104=>
                              sif (List.length l76=List.length l76) <|
                              j104 (((i70,i71,(i72,i73,i74,PUnit.unit),x75,l76,i77,(t81,l82),PUnit.unit),U78,U79,PUnit.unit)))))
                          (zar (za3 []) fun r105=>
                          asB r105 fun b106=>
                          some (D.bool b106)))
                        (((a56.fst.fst,a56.fst.snd.fst,(a56.fst.snd.snd.fst.fst,a56.fst.snd.snd.fst.snd.fst,a56.fst.snd.snd.fst.snd.snd.fst,PUnit.unit),a56.fst.snd.snd.snd.snd.fst,a56.fst.snd.snd.snd.snd.snd.snd.fst,(0:Int),PUnit.unit),c58,c60,PUnit.unit))))))
              (fun j107=>
              brK (i55 == (0:Int))
                (letN (IntKind.wrap IntKind.i64 (Int.tdiv i23 (3:Int))) fun n108=>
                zar (zab [D.int IntKind.i64 n108,D.int IntKind.i64 i28]) fun r109=>
                asI IntKind.i64 r109 fun i110=>
                sif ((0:Int)≤i110) <|
                sif (Int.toNat i110 < List.length l31) <|
                getK (List.set l31 ((0:Nat)+Int.toNat i22) (D.bool false)) ((0:Nat)+Int.toNat i110) fun d111=>
                asB d111 fun b112=>
                jn (α:=(Int×Int×(Int×Int×Int×PUnit)×(Int×Int×Int×PUnit)×D×List D×List D×Int×PUnit)×List (List D)×List (List D)×PUnit) (fun a113=>
                    sif (List.length a113.fst.snd.snd.snd.snd.snd.fst=List.length a113.fst.snd.snd.snd.snd.snd.fst) <|
                    sif (List.length a113.fst.snd.snd.snd.snd.snd.snd.fst=List.length a113.fst.snd.snd.snd.snd.snd.snd.fst) <|
                    j107 (((a113.fst.fst,a113.fst.snd.fst,(a113.fst.snd.snd.fst.fst,a113.fst.snd.snd.fst.snd.fst,a113.fst.snd.snd.fst.snd.snd.fst,PUnit.unit),(a113.fst.snd.snd.snd.fst.fst,a113.fst.snd.snd.snd.fst.snd.fst,a113.fst.snd.snd.snd.fst.snd.snd.fst,PUnit.unit),a113.fst.snd.snd.snd.snd.fst,a113.fst.snd.snd.snd.snd.snd.fst,a113.fst.snd.snd.snd.snd.snd.snd.fst,a113.fst.snd.snd.snd.snd.snd.snd.snd.fst,PUnit.unit),a113.snd.fst,a113.snd.snd.fst,PUnit.unit)))
                  (fun j114=>
                  brK b112
                    (sif ((0:Int)≤i110) <|
                    sif (Int.toNat i110 < List.length l31) <|
                    getK (List.set l31 ((0:Nat)+Int.toNat i22) (D.bool false)) ((0:Nat)+Int.toNat i110) fun d115=>
                    sif (D.isAgg d115=false) <|
                    sif (List.length l31=List.length (List.set (List.set l31 ((0:Nat)+Int.toNat i22) (D.bool false)) ((0:Nat)+Int.toNat i110) (D.bool false))) <|
                    sif (List.length l32=List.length l32) <|
                    j114 (((i21,i22,(i24,i25,i26,PUnit.unit),(i27,i28,i29,PUnit.unit),x30,List.set (List.set l31 ((0:Nat)+Int.toNat i22) (D.bool false)) ((0:Nat)+Int.toNat i110) (D.bool false),l32,(2:Int),PUnit.unit),c48,c50,PUnit.unit)))
                    (sif (List.length l31=List.length (List.set l31 ((0:Nat)+Int.toNat i22) (D.bool false))) <|
                    sif (List.length l32=List.length l32) <|
                    j114 (((i21,i22,(i24,i25,i26,PUnit.unit),(i27,i28,i29,PUnit.unit),x30,List.set l31 ((0:Nat)+Int.toNat i22) (D.bool false),l32,(1:Int),PUnit.unit),c48,c50,PUnit.unit)))))
                (sif (List.length l31=List.length (List.set l31 ((0:Nat)+Int.toNat i22) (D.bool false))) <|
                sif (List.length l32=List.length l32) <|
                j107 (((i21,i22,(i24,i25,i26,PUnit.unit),(i27,i28,i29,PUnit.unit),x30,List.set l31 ((0:Nat)+Int.toNat i22) (D.bool false),l32,(1:Int),PUnit.unit),c48,c50,PUnit.unit))))))))
      (((i9,i17,a5,(c5.fst,c5.snd.fst,c5.snd.snd.fst,PUnit.unit),(c7.fst,c7.snd.fst,c7.snd.snd.fst,PUnit.unit),r10.r,l19,[],(0:Int),PUnit.unit),c11,c13,PUnit.unit)))
theorem zhT (zbv:List D→Option D) (zab:List D→Option D) (zbi:List D→List Tb→Option Ans) (zbw:List D→Option D) (zax:List D→List Tb→Option Ans) (zbg:List D→List Tb→Option Ans) (zaX:List D→List Tb→Option Ans) (zaR:List D→List Tb→Option Ans) (za3:List D→Option D) (zaY:List D→List Tb→Option Ans) (zaP:List D→Option D) (tga3:Tag) (a0:Int) (a1:Int) (a2:Int) (a3:List D) (a4:Int) (a5:Int):denT Try.prog (zay [(ID.wattleplay_Pair,(.pure [0,0] zbv)),(ID.wattlekeep_Within,(.pure [0] zab)),(ID.wattlelaw16_Both,(.st [] [0] [(3840,true),(7649,true)] zbi)),(ID.wattleplay_Live,(.pure [1] zbw)),(ID.bench_Bench_Read,(.st [] [1,0] [(3840,false),(7649,false)] zax)),(ID.bench_Bench_Fail,(.st [] [0] [(3840,false),(7649,true)] zbg)),(ID.bench_Bench_Replace,(.st [] [0] [(3840,true),(7649,true)] zaX)),(ID.rebuild_Disk,(.st [] [0] [(3840,true),(7649,true)] zaR)),(ID.wattlelaw16_wakes,(.pure [0] za3)),(ID.bench_Bench_Pending,(.st [] [0] [(3840,false),(7649,false)] zaY)),(ID.wattlekeep_Same_byte,(.pure [0] zaP))]) zd0 [0] ID.wattlelaw16_RebuildRows [.int .i64 a0,.int .i64 a1,.int .i64 a2,.sl tga3 a3,.int .i64 a4,.int .i64 a5]=sif (D.nohL [.int .i64 a0,.int .i64 a1,.int .i64 a2,.sl tga3 a3,.int .i64 a4,.int .i64 a5]=true) (zdb zbv zab zbi zbw zax zbg zaX zaR za3 zaY zaP a0 a1 a2 (D.lentL a3) a4 a5):=by kernel_rfl
theorem zgx (tga3:Tag) (a0:Int) (a1:Int) (a2:Int) (a3:List D) (a4:Int) (a5:Int):zda [.int .i64 a0,.int .i64 a1,.int .i64 a2,.sl tga3 a3,.int .i64 a4,.int .i64 a5]=sif (D.nohL [.int .i64 a0,.int .i64 a1,.int .i64 a2,.sl tga3 a3,.int .i64 a4,.int .i64 a5]=true) (zdb zbv zab zbi zbw zax zbg zaX zaR za3 zaY zaP a0 a1 a2 (D.lentL a3) a4 a5):=zhT zbv zab zbi zbw zax zbg zaX zaR za3 zaY zaP tga3 a0 a1 a2 a3 a4 a5
end Wf

namespace Wf
open Go Go.RowKit Go.Proofs
set_option linter.unusedSimpArgs false
set_option linter.unusedVariables false
set_option maxHeartbeats 4000000
theorem rebuild_rows (a0 a1 a2:Int) (l:List Int) (a4 a5:Int) (tg:Tag):zda [.int .i64 a0,.int .i64 a1,.int .i64 a2,.sl tg (intL l),.int .i64 a4,.int .i64 a5]=some (.bool true):=by
  rw [zgx,zqI]
  rw [zaa (by simp [D.nohL,D.noh,zB3])]
  unfold zdb
  obtain ⟨x,y,hpair,hcan,hx5,hy8⟩:=zAT a0 a1
  obtain ⟨k1,k2,k3,k4,k5,k6⟩:=zqW.1 hcan
  have hxd:=ok_d k1
  have hyd:=ok_d k2
  have hxl:=zeL.1 k1
  have hyl:=zeL.1 k2
  have hs:=zmQ a2 17 (by omega) (by omega)
  have s0:=Int.emod_nonneg a2 (show (17:Int)≠0 by omega)
  have s1:=Int.emod_lt_of_pos a2 (show (0:Int) < 17 by omega)
  generalize a2 % 17=sp at*
  have hm:mayR x y sp=true:=zyl.2 ⟨k1,s0,by omega,.inr k2⟩
  have hdn:((y.d.toNat:Nat):Int)=y.d:=by omega
  obtain ⟨U,V,idx,B,hboth,hB,hS,hw0,hc0,hz0⟩:=zCZ [] [] hm (n:=y.d.toNat) (by omega) (by omega) .lent l
  simp only [List.length_nil] at hboth hB
  rw [hdn] at hboth hc0
  have hd:=zmQ a4 y.d (by omega) (by omega)
  have d0:=Int.emod_nonneg a4 (show y.d≠0 by omega)
  have d1:=Int.emod_lt_of_pos a4 (show (0:Int) < y.d by omega)
  generalize a4 % y.d=d at*
  have hd':d < ((y.d.toNat:Nat):Int):=by omega
  have hlive:=zCQ (d:=y.d.toNat) (by omega) (by omega)
  rw [hdn] at hlive
  have h3:=zmQ a5 3 (by omega) (by omega)
  have t0:=Int.emod_nonneg a5 (show (3:Int)≠0 by omega)
  have hgd:∀ r,(gAt x y sp r).d≤y.d∧(gAt x y sp r=x∨gAt x y sp r=y):=by
    intro r
    unfold gAt
    split
    · exact ⟨by omega,.inr rfl⟩
    · exact ⟨by omega,.inl rfl⟩
  obtain ⟨B1,e1,p1,hB1,f1,b1e,c1⟩:=hB.fail (d:=d) d0 hd'
  obtain ⟨V2,idx2,B2,e2,hB2,hw2,k2',_⟩:=hB1.replace d0 hd' (by rw [f1 d d0 hd']; simp)
  have hdk1:∀ e:Int,0≤e→e≠d→B2.dk e=B1.dk e:=fun e e0 he=>by rw [k2' e e0,if_neg he]
  have hf2:∀ e:Int,0≤e→e < y.d→B2.failed e=false:=by
    intro e e0 e1
    rw [zfO (hB2.is e0 (by omega)),k2' e e0]
    by_cases he:e=d
    · rw [if_pos he]; rfl
    · rw [if_neg he,←zfO (hB1.is e0 (by omega)),f1 e e0 (by omega),hS.failed]; simp [he]
  have hc2:∀ e a:Int,0≤e→0≤a→a < 52→B2.cur e a=if e=d then zfN else B.cur e a:=by
    intro e a e0 a0 a1
    by_cases he:e=d
    · rw [if_pos he]
      unfold Ben.cur
      rw [k2' e e0,if_pos he]
      have:=zw6 1 0 a0 a1
      unfold Ben.cur at this
      rw [zDm] at this
      exact this
    · rw [if_neg he,←c1 e a e0 he]
      unfold Ben.cur
      rw [hdk1 e e0 he]
  have hp2:∀ e:Int,0≤e→B2.nP e=0:=by
    intro e e0
    unfold Ben.nP
    rw [k2' e e0]
    split
    · rfl
    · rename_i he
      have:B1.dk e=B.dk e:=by
        rw [b1e]
        unfold Ben.fail
        rw [if_pos (hB.is d0 hd'),zfo (hB.is d0 hd') e0,if_neg he]
      rw [this,(hS.dk e).2]; rfl
  have hln:((List.replicate y.d.toNat true).map D.bool).length=y.d.toNat:=by simp
  have hset:=zv7 (List.replicate y.d.toNat true) d.toNat false
  have hup2:∀ e:Int,0≤e→e < y.d→e≠d→B2.up ((List.replicate y.d.toNat true).set d.toNat false) e=true:=by
    intro e e0 e1 he
    rw [zDn hB2.num d0 e0,hdn,hf2 e e0 e1]
    simp [e1,he]
  have hgl:((List.replicate y.d.toNat true).map D.bool)[d.toNat]? =some (.bool true):=by
    rw [List.getElem?_map,List.getElem?_replicate,if_pos (by omega)]; rfl
  have hdl:d.toNat < ((List.replicate y.d.toNat true).map D.bool).length:=by omega
  let want:Nat→List Int:=fun r=>B.cur d (36+r)
  have hwl:∀ r,r < 16→(want r).length=32:=fun r hr=>(zBt hB.at'.ok (by omega) (by omega)).len
  have hww:=zEN
  have hxD:x.D=.agg [.int .i64 x.l,.int .i64 x.d,.int .i64 x.c]:=rfl
  have hyD:y.D=.agg [.int .i64 y.l,.int .i64 y.d,.int .i64 y.c]:=rfl
  rw [hxD,hyD] at hpair
  rw [hpair,zac,zgO,zkY,zka,zeJ,zeJ,zeJ,zfM,zka,zeJ,zeJ,zeJ,zfM]
  dsimp only
  rw [hs,zac,zbj,hboth,zac]
  dsimp only
  rw [zbP,zc1,zc1,zbP,zaa (by rfl),zAn,zas,hd,zac,zbj,hlive,zac,zbI,zaa rfl]
  let st:Nat→(Int×Int×Int×(Int×Int×Int×PUnit)×(Int×Int×Int×PUnit)×D×List D×List D×Int×PUnit)×List (List D)×List (List D)×PUnit:=fun r=>
    ((sp,d,a5,(x.l,x.d,x.c,PUnit.unit),(y.l,y.d,y.c,PUnit.unit),.h kB 0 0,(List.replicate y.d.toNat true).map D.bool,pL (fP ((List.range r).map want)),(r:Int),PUnit.unit),P0 U 0 idx B,P1 V idx B,PUnit.unit)
  show zcd _ (st 0)=_
  have hcut:∀ l:List D,cut 0 l.length l=l:=fun l=>zoP rfl
  refine zcM st 16 (by omega) ?_ ?_
  · intro again r hr
    dsimp only [st]
    have hr16:(r:Int) < 16:=by omega
    have hrd:=hB.bread (by omega) d0 hd' (hS.failed d) (a:=36+(r:Int)) (by omega) (by omega)
    have hsn:pL (fP ((List.range r).map want))++[D.sl Tag.fresh (uL (B.cur d (36+r)))]=pL (fP ((List.range (r+1)).map want)):=by
      rw [zCV,List.range_succ,List.map_append]; rfl
    rw [zvp hr16,zaO,zao (by omega) (by omega),hrd,zac]
    dsimp only
    rw [zbP,zbP,zgO,zkY]
    dsimp only
    rw [zbI,zbj,zaa (by omega),zaa (by simp; omega),zaa rfl,zaO,zao (by omega) (by omega),zaa rfl,hcut,hsn,zaa (by simp)]
    rfl
  · intro again
    dsimp only [st]
    rw [ztF (by omega),e1,zac]
    dsimp only
    rw [zbP,zc1,zbP,zbj,zqK rfl,p1,e2,zac]
    dsimp only
    rw [zbP,zc1,zc1,zbP,zbj,zqK rfl,zaa d0,zaa hdl,Nat.zero_add,zaj hgl,zaa (by rfl),h3,zac,zbj,hset]
    have hdat:zBx B2 ((List.replicate y.d.toNat true).set d.toNat false) d x y sp (fun r=>rowL (gAt x y sp r) l r)→True:=fun _=>trivial
    refine zBs (fun z=>∃ (live:List Bool) (lo:Int),(live[d.toNat]?).getD false=false∧(∀ g:Geo,0≤g.d→g.d≤y.d→(B2.lostN live g:Int)≤lo)∧(lo=1∨lo=2)∧
      z=((sp,d,(x.l,x.d,x.c,PUnit.unit),(y.l,y.d,y.c,PUnit.unit),.h kB 0 0,live.map D.bool,pL (fP ((List.range 16).map want)),lo,PUnit.unit),P0 U 0 idx2 B2,P1 V2 idx2 B2,PUnit.unit)) ?_ ?_
    · rintro _ ⟨live,lo,hl0,hlo,hlo2,rfl⟩
      dsimp only
      have hW:zBx B2 live d x y sp (fun r=>rowL (gAt x y sp r) l r):=by
        intro r hr hdr
        refine ⟨zur (zv5 hm r) l r,fun e e0 e1 hu=>?_⟩
        have hne:e≠d:=by rintro rfl; rw [zym hl0] at hu; cases hu
        have:=(hgd r).1
        rw [hc2 e _ e0 (by omega) (by omega),if_neg hne,hc0 e r e0 (by omega) hr e1]
      rw [zaa (by omega),hcut]
      by_cases hst:zzh B2 live d x y sp (fun r=>rowL (gAt x y sp r) l r)
      · obtain ⟨B3,e3,hB3,f3,c3,n3⟩:=hB2.rebuild (by omega) .lent d0 hd' hl0 hm (hf2 d d0 d1) hst
        have hpd:=hB3.pend (by omega) (fun e e0=>by rw [n3 e e0]; split; rfl; exact hp2 e e0)
        have hcw:∀ r:Nat,r < 16→B3.cur d (36+r)=want r:=by
          intro r hr
          have q1:((36:Int)+r - 36).toNat=r:=by omega
          have q2:(36:Int)+r - 36=r:=by omega
          rw [c3 d _ d0 (by omega) (by omega),q1,q2]
          show _=B.cur d (36+r)
          by_cases hdr:d < (gAt x y sp r).d
          · rw [if_pos ⟨rfl,by omega,hdr⟩,hc0 d r d0 d1 hr hdr]
          · rw [if_neg (fun q=>hdr q.2.2),hc2 d _ d0 (by omega) (by omega),if_pos rfl,hz0 d _ d0 (by omega) (by omega) (.inr (by rw [q1]; omega))]
        rw [e3,zac]
        dsimp only
        rw [zbP,zc1,zc1,zbP,zbj,zAp (by decide),zqK rfl,hpd,zac]
        dsimp only
        rw [zbP,zbP,zbj,zqK rfl,zaa rfl]
        let s2:Nat→(Int×Int×(Int×Int×Int×PUnit)×D×List D×Int×PUnit)×List (List D)×List (List D)×PUnit:=fun r=>
          ((sp,d,(x.l,x.d,x.c,PUnit.unit),.h kB 0 0,pL (fP ((List.range 16).map want)),(r:Int),PUnit.unit),P0 U 0 idx2 B3,P1 V2 idx2 B3,PUnit.unit)
        show zcd _ (s2 0)=_
        refine zcM s2 16 (by omega) ?_ ?_
        · intro again r hr
          dsimp only [s2]
          have hr16:(r:Int) < 16:=by omega
          have hg:(pL (fP ((List.range 16).map want)))[r]? =some (.sl .fresh (uL (want r))):=zcB (zsU (by rw [List.getElem?_map,List.getElem?_range hr]; rfl))
          have hrd:=hB3.bread (by omega) d0 hd' ((f3 d).trans (hf2 d d0 d1)) (a:=36+(r:Int)) (by omega) (by omega)
          have hsame:∀ t:Tag,zaP [.sl .lent (uL (want r)),.sl t (uL (want r))]=some (.bool true):=by
            intro t
            rw [zAU .lent t (want r) (want r) (by rw [hwl r hr]; decide)]
            simp
          rw [hcw r hr] at hrd
          have last:∀ t:Tag,(zar (zax [D.h kB 0 0,D.int IntKind.i64 d,D.int IntKind.i64 (36+(r:Int))] [P0 U 0 idx2 B3,P1 V2 idx2 B3]) fun r96=>
              nilK r96.outs <| nilK r96.tbs <| zd5 r96.r fun ts97=>zaw ([Lf.any,Lf.any]) ts97 fun c98=>za4 c98.fst fun l99=>asI IntKind.i64 c98.snd.fst fun i100=>
              brK (i100 != (0:Int)) (some (D.bool false)) (sif ((0:Nat)+List.length l99≤List.length l99) <|
              zar (zaP [D.sl Tag.lent (cut (0:Nat) (List.length l99) l99),D.sl t (uL (want r))]) fun r101=>asB r101 fun b102=>
              brK (!b102) (some (D.bool false)) (letN (IntKind.wrap IntKind.i64 ((r:Int)+(1:Int))) fun n103=>
              sif ((pL (fP ((List.range 16).map want))).length=(pL (fP ((List.range 16).map want))).length) <|
              again (((sp,d,(x.l,x.d,x.c,PUnit.unit),.h kB 0 0,pL (fP ((List.range 16).map want)),n103,PUnit.unit),P0 U 0 idx2 B3,P1 V2 idx2 B3,PUnit.unit)))))=again (s2 (r+1)):=by
            intro t
            rw [hrd,zac]
            dsimp only
            rw [zbP,zbP,zgO,zkY]
            dsimp only
            rw [zbI,zbj,zqK rfl,zaa (by omega),hcut,hsame t,zac,zch,Bool.not_true,zas,zaO,zao (by omega) (by omega),zaa rfl]
            rfl
          rw [zvp hr16,zaa (by omega),zaa (by simp; omega),Nat.zero_add,Int.toNat_natCast,zaj hg,zev]
          by_cases hxd:x.d≤d
          · rw [zvp (show d≥x.d from hxd),zD4]
            by_cases hrs:(r:Int)≥sp
            · rw [zvp hrs,zaa rfl]
              dsimp only
              have hzr:want r=zfN:=by
                show B.cur d (36+r)=zfN
                refine hz0 d _ d0 (by omega) (by omega) (.inr ?_)
                rw [show ((36:Int)+r - 36).toNat=r by omega]
                unfold gAt
                rw [if_neg (by omega)]; exact hxd
              have:=last .fresh
              rw [hzr] at this
              rw [zaO,zao (by omega) (by omega)]
              exact this
            · rw [ztF hrs,zaa rfl]
              dsimp only
              rw [zaO,zao (by omega) (by omega)]
              exact last _
          · rw [ztF (show ¬ d≥x.d from hxd),zD4,zaa rfl]
            dsimp only
            rw [zaO,zao (by omega) (by omega)]
            exact last _
        · intro again
          dsimp only [s2]
          rw [ztF (by omega),hww,zac,zch]
      · have h7:=zzl hB2.at'.ok hB2.down (by rw [hB2.left]; omega) d0 (by rw [hB2.num]; exact hd') hl0 hm (hf2 d d0 d1) hW hst
        have hr:=zkZ hB2.at' (by have:=hB2.w; omega) .lent live d x y sp
        rw [h7] at hr
        have hlo2':lo=2∧(x.l=5∨y.l=5):=by
          refine Classical.byContradiction fun hq=>hst fun r hr hdr=>?_
          obtain ⟨hR,hrow⟩:=hW r hr hdr
          refine ⟨hR,?_,hrow⟩
          have h1:=hlo (gAt x y sp r) (by rcases (hgd r).2 with e | e<;>rw [e]<;>omega) (hgd r).1
          rcases hlo2 with e | e
          · rcases (hgd r).2 with q | q<;>rw [q] at h1 ⊢<;>omega
          · rcases (hgd r).2 with q | q<;>rw [q] at h1 ⊢<;>omega
        rw [hr,zac]
        dsimp only
        rw [zbP,zc1,zc1,zbP,zbj,zxN rfl,zvp (by omega)]
        by_cases q:x.l=5
        · rw [zxN q,hww,zac,zch]
        · rw [zAp q,zxN (hlo2'.2.resolve_left q),hww,zac,zch]
    · intro j hj
      have hl1:(((List.replicate y.d.toNat true).set d.toNat false)[d.toNat]?).getD false=false:=by rw [zxb d0 d0]; simp
      have hlen1:((List.replicate y.d.toNat true).map D.bool).length=(((List.replicate y.d.toNat true).set d.toNat false).map D.bool).length:=by simp
      have hlo1:∀ g:Geo,0≤g.d→g.d≤y.d→(B2.lostN ((List.replicate y.d.toNat true).set d.toNat false) g:Int)≤1:=by
        intro g g0 g1
        have:=zyn (B:=B2) (live:=(List.replicate y.d.toNat true).set d.toNat false) (g:=g) (d:=d) g0 fun e e0 e1 he=>hup2 e e0 (by omega) he
        omega
      by_cases ht:a5 % 3=0
      · have hk:=zmQ (IntKind.i64.wrap (a5.tdiv 3)) y.d (by omega) (by omega)
        have q0:=Int.emod_nonneg (IntKind.i64.wrap (a5.tdiv 3)) (show y.d≠0 by omega)
        have q1:=Int.emod_lt_of_pos (IntKind.i64.wrap (a5.tdiv 3)) (show (0:Int) < y.d by omega)
        rw [zxN ht,zaO,hk,zac,zbj]
        generalize IntKind.i64.wrap (a5.tdiv 3) % y.d=k at*
        have hgk:=zBv (ks:=(List.replicate y.d.toNat true).set d.toNat false) (k:=k.toNat) (by simp; omega)
        rw [zxb d0 q0,hdn] at hgk
        rw [zaa q0,zaa (by omega),Nat.zero_add,zaj hgk,zch,zD4]
        by_cases hkd:k=d
        · have:(decide (k < y.d) && !decide (k=d))=false:=by simp [hkd]
          rw [this,zas,zaa hlen1,zaa rfl]
          dsimp only
          rw [zaa rfl,zaa rfl]
          exact hj _ ⟨_,1,hl1,hlo1,.inl rfl,rfl⟩
        · have:(decide (k < y.d) && !decide (k=d))=true:=by simp [hkd,q1]
          rw [this] at hgk
          rw [this,za0,zaa q0,zaa (by omega),zaj hgk,zaa (by rfl),zv7,zaa (by simp),zaa rfl]
          dsimp only
          rw [zaa rfl,zaa rfl]
          refine hj _ ⟨_,2,?_,?_,.inr rfl,rfl⟩
          · rw [List.getElem?_set,if_neg (by omega)]; exact hl1
          · intro g g0 g1
            have:B2.lostN (((List.replicate y.d.toNat true).set d.toNat false).set k.toNat false) g≤2:=by
              unfold Ben.lostN
              refine Nat.le_trans (zv3 (a:=d.toNat) (b:=k.toNat) _ fun i hi hp=>?_) (by split<;>split<;>omega)
              refine Classical.byContradiction fun hq=>?_
              have hup:=hup2 i (by omega) (by omega) (by omega)
              have:B2.up (((List.replicate y.d.toNat true).set d.toNat false).set k.toNat false) i=true:=by
                unfold Ben.up at hup ⊢
                rw [List.getElem?_set,if_neg (by omega)]
                exact hup
              rw [this] at hp; cases hp
            omega
      · rw [zAp ht,zaa hlen1,zaa rfl]
        exact hj _ ⟨_,1,hl1,hlo1,.inl rfl,rfl⟩
end Wf

