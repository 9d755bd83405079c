/- A part of the proof: lemmas that the law's row leans on. -/
import Derived.Test.YtlbdpbbpoghncaaPe
import Derived.Test.YtlbdpbbpoghncaaPd
set_option linter.all false
namespace Wf
open Go Go.RowKit Go.Proofs
set_option linter.unusedSimpArgs false
set_option linter.unusedVariables false
set_option maxHeartbeats 4000000
def ztG (w left:Int) (down:Bool) (hs:List D):List D:=[.int .i64 w,.int .i64 left,.bool down,.sl .own hs]
theorem ztH (m k:Nat):((List.range k).map fun j=>hD (m+j))++[hD (m+k)]=(List.range (k+1)).map fun j=>hD (m+j):=by simp [List.range_succ]
theorem zvC (l:List Nat):zcL (l.map hD)=true:=by simp only [zcL,List.all_map,List.all_eq_true]; intro i _; rfl
theorem zxx (l:List Nat):zeJ 1 (l.map hD)=true:=by simp only [zeJ,List.all_map,List.all_eq_true]; intro i _; rfl
theorem zoU {α:Type} (k:Nat) (a:α):List.replicate k a++[a]=List.replicate (k+1) a:=by
  rw [List.replicate_succ']
theorem zyT (T0 T1:Tb) {n:Int} (h0:1≤n) (h1:n≤8):
    za2 [.int .i64 n] [T0,T1]=some (Ans.mk (.tup [.h kB T0.length 0,.int .i64 0]) []
      [T0++[ztG 0 (-1) false ((List.range n.toNat).map fun j=>hD (T1.length+j))],T1++List.replicate n.toNat DS.new.cells]):=by
  rw [zoz]
  unfold zjX
  have d1:decide (n < 1)=false:=by simp; omega
  have d2:decide (n > 8)=false:=by simp; omega
  rw [d1,zaG,d2,zaG,zs8]
  have hn:n=(n.toNat:Int):=by omega
  let st:Nat→(Nat×Int×Int×PUnit)×List (List D)×List (List D)×PUnit:=fun k=>
    ((T0.length,n,(k:Int),PUnit.unit),T0++[ztG 0 (-1) false ((List.range k).map fun j=>hD (T1.length+j))],T1++List.replicate k DS.new.cells,PUnit.unit)
  have h00:st 0=((T0.length,n,0,PUnit.unit),T0++[[D.own0 (D.int IntKind.i64 (0:Int)),D.own0 (D.int IntKind.i64 (-1:Int)),D.own0 (D.bool false),D.own0 (D.sl Tag.nil [])]],T1,PUnit.unit):=by
    simp [st,ztG,D.own0]
  rw [←h00]
  refine zdf st n.toNat (by omega) ?_ ?_
  · intro again k hk
    dsimp only [st]
    have hd:decide ((k:Int) < n)=true:=by simp; omega
    have hrow:(T0++[ztG 0 (-1) false ((List.range k).map fun j=>hD (T1.length+j))])[T0.length]? =some (ztG 0 (-1) false ((List.range k).map fun j=>hD (T1.length+j))):=by simp
    have hnew:=zCA (T1++List.replicate k DS.new.cells)
    have hl:(T1++List.replicate k DS.new.cells).length=T1.length+k:=by simp
    rw [hl,List.append_assoc,zoU] at hnew
    rw [hd,zbt,zap hrow]
    unfold ztG at hrow ⊢
    rw [zgv,zgv,zgv,zr3,zb9,hnew,zac,zbl,zbe,zbl,zae (by rfl),zae (by rfl),zap hrow,zgv,zgv,zgv,zr3,zb9]
    rw [zae (by simp; omega),zae (by rfl),zae (by rfl),zs8,zs9 hrow]
    have hset:=zkG hrow (List.set [D.int .i64 0,.int .i64 (-1),.bool false,.sl .own ((List.range k).map fun j=>hD (T1.length+j))] 3 .undef)
    have hsn:=ztH T1.length k
    unfold hD at hsn
    have hH:(List.map (fun j=>hD (T1.length+j)) (List.range k))++[D.h kD (T1.length+k) 0]=(List.range (k+1)).map fun j=>hD (T1.length+j):=hsn
    dsimp only
    rw [zap hset,zae (by simp),hH,zae (by simp)]
    have e1:((List.range (k+1)).map fun j=>hD (T1.length+j))=((List.range (k+1)).map fun j=>T1.length+j).map hD:=by rw [List.map_map]; rfl
    rw [e1,zae (zvC _),zae (zxx _),zs8,zbk,zat (by omega) (by omega),zd7 hset,←e1,List.set_set]
    simp [ztG]
  · intro again
    dsimp only [st]
    have hd:decide (((n.toNat:Nat):Int) < n)=false:=by simp; omega
    rw [hd,zaG]
def nIdx (T1:Tb) (n:Nat):List Nat:=(List.range n).map fun j=>T1.length+j
def nT0 (T0 T1:Tb) (n:Nat):Tb:=T0++[bRow (Ben.new n) (nIdx T1 n)]
def nT1 (T1:Tb) (n:Nat):Tb:=T1++List.replicate n DS.new.cells
theorem zAC (T1:Tb) (n:Nat):((List.range n).map fun j=>hD (T1.length+j))=(nIdx T1 n).map hD:=by unfold nIdx; rw [List.map_map]; rfl
theorem zBS (T0 T1:Tb) {n:Nat} (h8:n≤8):At (nT0 T0 T1 n) (nT1 T1 n) T0.length (nIdx T1 n) (Ben.new n):=by
  refine ⟨by simp [nT0],?_,fun i hi=>?_,by simp [nIdx,Ben.new],zpA h8⟩
  · unfold List.Nodup nIdx
    rw [List.pairwise_map]
    exact List.Pairwise.imp (fun h e=>h (by omega)) (List.nodup_range (n:=n))
  · unfold nIdx at hi
    obtain ⟨j,hj,rfl⟩:=List.mem_map.1 hi
    have:=List.mem_range.1 hj
    simp [nT1]; omega
theorem zBT (T0 T1:Tb) (n:Nat):P0 (nT0 T0 T1 n) T0.length (nIdx T1 n) (Ben.new n)=nT0 T0 T1 n:=zAo (by unfold nT0; simp)
theorem zBU (T1:Tb) (n:Nat):P1 (nT1 T1 n) (nIdx T1 n) (Ben.new n)=nT1 T1 n:=by
  unfold P1
  show putL _ _ _++[]=_
  rw [List.append_nil]
  refine zsd fun j i c h1 h2=>?_
  have hj:j < n:=by have:=zaI h1; simpa [nIdx] using this
  have e1:i=T1.length+j:=by
    unfold nIdx at h1
    rw [List.getElem?_map,List.getElem?_range hj] at h1
    simpa using h1.symm
  have e2:c=DS.new.cells:=by
    have:(Ben.new n).ds.map DS.cells=List.replicate n DS.new.cells:=by unfold Ben.new; simp
    rw [this] at h2
    rw [List.getElem?_replicate,if_pos hj] at h2
    exact (Option.some.inj h2).symm
  subst e1 e2
  unfold nT1
  rw [List.getElem?_append_right (by omega),show T1.length+j - T1.length=j by omega,List.getElem?_replicate,if_pos hj]
theorem zCC (T0 T1:Tb) {n:Nat} (h0:1≤n) (h8:n≤8):
    za2 [.int .i64 n] [T0,T1]=some (Ans.mk (.tup [.h kB T0.length 0,.int .i64 0]) [] [P0 (nT0 T0 T1 n) T0.length (nIdx T1 n) (Ben.new n),P1 (nT1 T1 n) (nIdx T1 n) (Ben.new n)]):=by
  rw [zyT T0 T1 (by omega) (by omega),zBT,zBU,Int.toNat_natCast,zAC]
  rfl
structure Still (B:Ben):Prop where
  ok:B.Ok
  down:B.down=false
  ds:∀ s∈B.ds,s.failed=false∧s.pend=[]
theorem Still.dk {B:Ben} (h:Still B) (d:Int):(B.dk d).failed=false∧(B.dk d).pend=[]:=by
  unfold Ben.dk
  cases e:B.ds[d.toNat]? with
  | none=>exact ⟨rfl,rfl⟩
  | some s=>exact h.ds s (List.mem_of_getElem? e)
theorem Still.failed {B:Ben} (h:Still B) (d:Int):B.failed d=false:=by unfold Ben.failed; rw [(h.dk d).1,Bool.and_false]
theorem zxy {n:Nat} (h:n≤8):Still (Ben.new n):=⟨zpA h,rfl,fun s hs=>by
  unfold Ben.new at hs
  rw [(List.mem_replicate.1 hs).2]; exact ⟨rfl,rfl⟩⟩
theorem zBV (n:Nat) (d:Int):(Ben.new n).dk d=DS.new:=by
  unfold Ben.dk Ben.new
  dsimp only
  rw [List.getElem?_replicate]
  split<;>rfl
theorem zyU {a:Nat} (ha:a < 52):DS.new.base a=zfD:=by
  unfold DS.base
  show ((List.replicate 1664 (0:Int)).drop (a*32)).take 32=_
  rw [List.drop_replicate,List.take_replicate]
  unfold zfD
  congr 1
  omega
theorem ztI (n:Nat) (d:Int) {a:Int} (a0:0≤a) (a1:a < 52):(Ben.new n).cur d a=zfD:=by
  unfold Ben.cur
  rw [zBV]
  show look [] a (DS.new.base a.toNat)=_
  rw [zus,zyU (by omega)]
section
variable {B:Ben} {d a:Int} {x:List Int}
end
def rowL (g:Geo) (l:List Int) (r:Nat):List (List Int):=secL (l.drop (min r l.length)) g.width.toNat
structure Filld (gs:Nat→Geo) (l:List Int) (n:Nat) (R:Nat) (B:Ben):Prop where
  still:Still B
  num:B.n=n
  w:B.w=0
  left:B.left= -1
  cur:∀ d a:Int,0≤d→0≤a→a < 52→B.cur d a=if 36≤a∧a < 36+R∧d < (gs (a - 36).toNat).d∧d < n then atR (gs (a - 36).toNat) (a - 36) (rowL (gs (a - 36).toNat) l (a - 36).toNat) d else zfD
end Wf

namespace Wf
open Go Go.RowKit Go.Proofs
set_option linter.unusedSimpArgs false
set_option linter.unusedVariables false
set_option maxHeartbeats 4000000
section
variable {T0 T1:Tb}
end
end Wf

namespace Wf
open Go Go.RowKit Go.Proofs
set_option linter.unusedSimpArgs false
set_option linter.unusedVariables false
set_option maxHeartbeats 4000000
theorem zxz {p:Nat→Bool} {a n:Nat} (h:∀ i,i < n→p i=true→i=a):(List.range n).countP p≤1:=by
  have:∀ n,(∀ i,i < n→p i=true→i=a)→(List.range n).countP p≤if a < n then 1 else 0:=by
    intro n
    induction n with
    | zero=>simp
    | succ n ih=>
      intro h
      have ih:=ih fun i hi hp=>h i (by omega) hp
      rw [List.range_succ,List.countP_append,List.countP_singleton]
      by_cases hp:p n=true
      · rw [if_pos hp]
        have e:=h n (by omega) hp
        subst e; rw [if_neg (by omega)] at ih; rw [if_pos (by omega)]; omega
      · rw [if_neg hp]
        split at ih<;>split<;>omega
  have:=this n h
  split at this<;>omega
section
variable {B:Ben} {d a:Int}
theorem zyV (hd:B.is d=true) {e b:Int} (e0:0≤e) (hne:e≠d):(B.fail d).2.cur e b=B.cur e b:=by
  unfold Ben.fail
  rw [if_pos hd]
  unfold Ben.cur
  rw [zf1 hd e0,if_neg hne]
theorem ztJ (hd:B.is d=true) {e:Int} (he:B.is e=true):(B.fail d).2.failed e=(decide (e=d) || B.failed e):=by
  unfold Ben.fail
  rw [if_pos hd]
  unfold Ben.failed
  rw [ztk,he,zf1 hd (zfi.1 he).1]
  by_cases h:e=d
  · subst h; rw [if_pos rfl,show DS.dead.failed=true from rfl]; simp
  · rw [if_neg h]; simp [h]
theorem zxA (hd:B.is d=true):(B.fail d).1=0∧(B.fail d).2.n=B.n∧(B.fail d).2.down=B.down∧(B.fail d).2.left=B.left∧(B.fail d).2.w=B.w:=by
  unfold Ben.fail
  rw [if_pos hd]
  exact ⟨rfl,by simp,rfl,rfl,rfl⟩
end
theorem zyW {n:Nat} {d:Int} (d0:0≤d):((List.replicate n true)[d.toNat]?).getD false=decide (d < n):=by
  rw [List.getElem?_replicate]
  by_cases h:d < n
  · rw [if_pos (by omega)]; simp [h]
  · rw [if_neg (by omega)]; simp [h]
theorem zBW {B:Ben} {n:Nat} (hn:B.n=n) {d:Int} (d0:0≤d):B.up (List.replicate n true) d=(decide (d < n) && !B.failed d):=by
  unfold Ben.up
  rw [zyW d0,hn]
  cases decide (d < (n:Int))<;>simp
theorem zuK (B:Ben) (live:List Bool) (g:Geo) (r:Int) (data:List (List Int)):nW (B.wActs live g r data)≤g.d.toNat:=by
  unfold Ben.wActs
  have:∀ n,nW ((List.range n).flatMap fun (d:Nat)=>if B.up live d then [Act.w d (36+r) (atR g r data d)] else [])≤n:=by
    intro n
    induction n with
    | zero=>simp [nW]
    | succ n ih=>
      rw [List.range_succ,List.flatMap_append,zn5]
      have:nW (List.flatMap (fun (d:Nat)=>if B.up live d then [Act.w d (36+r) (atR g r data d)] else []) [n])≤1:=by
        simp only [List.flatMap_cons,List.flatMap_nil,List.append_nil]
        split
        · exact Nat.le_trans (List.length_filter_le _ _) (by simp)
        · simp [nW]
      omega
  exact this _
theorem zq7 (B:Ben) (live:List Bool):nW (B.fActs live)=0:=by
  unfold Ben.fActs nW
  rw [List.length_eq_zero_iff,List.filter_eq_nil_iff]
  intro a ha
  obtain ⟨d,_,ha⟩:=List.mem_flatMap.1 ha
  split at ha
  · rw [List.mem_singleton.1 ha]; simp [Act.isW]
  · cases ha
theorem ztK {B:Ben} (hB:B.Ok) (hd:B.down=false) {live:List Bool} {g:Geo} {r:Int} {data:List (List Int)} (hr:zcs g r=true) (hR:Row g data) (hl:B.left < 0∨8≤B.left):
    B.sWrite live g r data=(0,does B (B.wActs live g r data))∧Does B (B.wActs live g r data):=by
  have hdd:=ok_d (zbP.1 hr).1
  have hn:=zuK B live g r data
  have:=zm1 (B.wActs live g r data) hB hd (zyw hr hR) (by omega)
  refine ⟨?_,this⟩
  unfold Ben.sWrite
  rw [zsg hr hR,if_neg (by simp),this.run]
theorem ztL {B:Ben} (hB:B.Ok) (hd:B.down=false) (live:List Bool) (hl:B.left < 0∨0≤B.left):B.sFlush live=(0,does B (B.fActs live))∧Does B (B.fActs live):=by
  have:=zm1 (B.fActs live) hB hd zyx (by rw [zq7]; omega)
  exact ⟨this.run,this⟩
theorem zxB {B:Ben} {live:List Bool} (h:Does B (B.fActs live)) {e b:Int} (e0:0≤e) (b0:0≤b) (b1:b < 52):(does B (B.fActs live)).cur e b=B.cur e b:=by
  rw [h.cur e b e0 b0 b1]
  exact zlw (zyy e b) _
theorem zxC {B:Ben} {live:List Bool} {g:Geo} {r:Int} {data:List (List Int)} (h:Does B (B.wActs live g r data)) {e b:Int} (e0:0≤e) (e1:e < g.d) (b0:0≤b) (b1:b < 52):
    (does B (B.wActs live g r data)).cur e b=if b=36+r∧B.up live e=true then atR g r data e else B.cur e b:=by
  rw [h.cur e b e0 b0 b1]
  by_cases hc:b=36+r∧B.up live e=true
  · rw [if_pos hc,hc.1]
    have:=zxd (B:=B) (live:=live) (g:=g) (r:=r) (data:=data) (d:=e.toNat) (by omega) (by rw [show ((e.toNat:Nat):Int)=e by omega]; exact hc.2) B.cur
    rw [show ((e.toNat:Nat):Int)=e by omega] at this
    exact this
  · rw [if_neg hc]
    refine zlw (ztn ?_) _
    by_cases hb:b=36+r
    · refine .inr ?_
      cases hu:B.up live e
      · rfl
      · exact absurd ⟨hb,hu⟩ hc
    · exact .inl hb
theorem zuL (f:Nat→Int) {n:Nat}:sumK f 32 (List.replicate n zfD) n=zfD:=by
  have hs:∀ l∈List.replicate n zfD,l.length=32:=by intro l hl; rw [(List.mem_replicate.1 hl).2]; exact zkM.len
  have hl:(sumK f 32 (List.replicate n zfD) n).length=32:=ziU hs (by simp)
  refine zwT (by rw [hl,zkM.len]) fun i hi=>?_
  rw [hl] at hi
  rw [zpx hs hi (by simp),zh5]
  have:∀ k,k≤n→xsum (fun j=>mul8 (getB ((List.replicate n zfD).getD j []) i) (f j)) k=0:=by
    intro k
    induction k with
    | zero=>intro _; rfl
    | succ k ih=>
      intro hk
      have e:(List.replicate n zfD).getD k []=zfD:=by rw [List.getD_eq_getElem?_getD,List.getElem?_replicate,if_pos (by omega)]; rfl
      show xor8 (xsum _ k) (mul8 (getB ((List.replicate n zfD).getD k []) i) (f k))=0
      rw [ih (by omega),e,zh5,zkL]; rfl
  exact this n (Nat.le_refl _)
def zkh (g:Geo):List (List Int):=List.replicate g.width.toNat zfD
theorem zyX {g:Geo} (hk:g.ok=true):Row g (zkh g):=⟨by have:=zeV hk; simp [zkh]; omega,fun x hx=>by rw [(List.mem_replicate.1 hx).2]; exact zkM⟩
theorem zxD {g:Geo} {r d:Int} (hr:zcs g r=true) (d0:0≤d) (d1:d < g.d):atR g r (zkh g) d=zfD:=by
  unfold atR
  split
  · unfold sumP zkh; rw [List.length_replicate]; exact zuL _
  · rename_i h1
    split
    · unfold sumQ zkh; rw [List.length_replicate]; exact zuL _
    · rename_i h2
      obtain ⟨c0,c1,_⟩:=ziY hr d0 d1 h1 h2
      unfold zkh
      rw [List.getD_eq_getElem?_getD,List.getElem?_replicate,if_pos (by omega)]; rfl
end Wf

namespace Wf
open Go Go.RowKit Go.Proofs
set_option linter.unusedSimpArgs false
set_option linter.unusedVariables false
set_option maxHeartbeats 4000000
theorem zvD (l:List Bool):(l.map D.bool).all D.free=true:=by rw [List.all_map,List.all_eq_true]; intro b _; rfl
theorem zvE {d k:Nat} (hk:k < d):((List.range d).map fun i=>D.bool (decide (i < k))).set k (.bool true)=(List.range d).map fun i=>D.bool (decide (i < k+1)):=by
  apply List.ext_getElem?
  intro j
  rw [List.getElem?_set]
  by_cases hj:j < d
  · by_cases hjk:k=j
    · subst hjk; simp [hj]
    · rw [if_neg hjk]
      simp only [List.getElem?_map,List.getElem?_range hj,Option.map_some,Option.some.injEq,D.bool.injEq,decide_eq_decide]
      omega
  · have h1:k≠j:=by omega
    rw [if_neg h1,List.getElem?_eq_none (by simp; omega),List.getElem?_eq_none (by simp; omega)]
theorem zyY {d:Nat} (h0:1≤d) (h8:d≤8):za7 [.int .i64 0,.int .i64 d]=some (.sl .own ((List.replicate d true).map D.bool)):=by
  rw [zjc]
  unfold zeb
  rw [zae (by omega),zae (by rfl),zae (by omega),zae (by omega),zae (by simp),zae (by simp),Int.toNat_natCast]
  let st:Nat→(Int×Int×List D×Int×Int×PUnit)×PUnit:=fun k=>((0,(d:Int),(List.range d).map (fun i=>D.bool (decide (i < k))),(d:Int),(k:Int),PUnit.unit),PUnit.unit)
  have hst:st 0=((0,(d:Int),List.replicate d (D.bool false),(d:Int),0,PUnit.unit),PUnit.unit):=by
    have:(List.range d).map (fun i=>D.bool (decide (i < 0)))=List.replicate d (D.bool false):=by
      apply List.ext_getElem?; intro j
      by_cases hj:j < d
      · simp [hj]
      · rw [List.getElem?_eq_none (by simp; omega),List.getElem?_eq_none (by simp; omega)]
    simp only [st,this]; rfl
  rw [←hst]
  refine zdf st d (by omega) ?_ ?_
  · intro again k hk
    dsimp only [st]
    have hd:decide ((k:Int) < (d:Int))=true:=by simp; omega
    have hg:((List.range d).map (fun i=>D.bool (decide (i < k))))[k]? =some (.bool false):=by simp [hk]
    rw [hd,zbt,zae (by omega),zae (by simp; omega),Nat.zero_add,show Int.toNat (k:Int)=k from rfl,zap hg,zae (by rfl),zbk,zat (by omega) (by omega),zae (by simp),zvE hk]
    rfl
  · intro again
    dsimp only [st]
    have hd:decide ((d:Int) < (d:Int))=false:=by simp
    have hd1:decide ((d:Int) > 0)=true:=by simp; omega
    have hall:(List.range d).map (fun i=>D.bool (decide (i < d)))=(List.replicate d true).map D.bool:=by
      apply List.ext_getElem?; intro j
      by_cases hj:j < d
      · simp [hj]
      · rw [List.getElem?_eq_none (by simp; omega),List.getElem?_eq_none (by simp; omega)]
    have hz:decide ((0:Int) % 3 > 0)=false:=rfl
    have hz2:((0:Int) % 9 == 8)=false:=rfl
    rw [hd,zaG,hd1,zbt,zq3 0 3 (by omega) (by omega),zac,zbm,hz,zaG,zbt,zq3 0 9 (by omega) (by omega),zac,zbm,hz2,zaG,zae (by rfl),hall,zae (zvD _)]
end Wf

namespace Wf
open Go Go.RowKit
universe u
def idf {α:Sort u} (a:α):α:=a
@[simp] theorem zcG {α:Sort u} (a:α):idf a=a:=congrFun (funext fun _=>rfl) a
section
variable {R α β:Type}
@[congr high] theorem zCe {b b':Bool} {x y:Option R} (h:idf b=b'):brK b x y=brK b' x y:=by rw [zcG] at h; rw [h]
@[congr high] theorem zAW {x x':Option α} {f:α→Option R} (h:idf x=x'):zar x f=zar x' f:=by rw [zcG] at h; rw [h]
@[congr high] theorem zCf {c c':Prop} [d:Decidable c] [d':Decidable c'] {x:Option R} (h:idf c=c'):sif c x=sif c' x:=by rw [zcG] at h; subst h; congr
@[congr high] theorem zBX {n n':Int} {f:Int→Option R} (h:idf n=n'):letN n f=letN n' f:=by rw [zcG] at h; rw [h]
@[congr high] theorem zBY {l l':List α} {i i':Nat} {f:α→Option R} (h:idf l=l') (h':idf i=i'):getK l i f=getK l' i' f:=by rw [zcG] at h h'; rw [h,h']
@[congr high] theorem zCg {k:IntKind} {d d':D} {f:Int→Option R} (h:idf d=d'):asI k d f=asI k d' f:=by rw [zcG] at h; rw [h]
@[congr high] theorem zCh {d d':D} {f:Bool→Option R} (h:idf d=d'):asB d f=asB d' f:=by rw [zcG] at h; rw [h]
@[congr high] theorem zCi {d d':D} {f:ByteArray→Option R} (h:idf d=d'):asS d f=asS d' f:=by rw [zcG] at h; rw [h]
@[congr high] theorem zBZ {d d':D} {f:Tag→List D→Option R} (h:idf d=d'):asSl d f=asSl d' f:=by rw [zcG] at h; rw [h]
@[congr high] theorem zAX {d d':D} {f:List D→Option R} (h:idf d=d'):zbd d f=zbd d' f:=by rw [zcG] at h; rw [h]
@[congr high] theorem zAD {d d':D} {f:List D→Option R} (h:idf d=d'):zjq d f=zjq d' f:=by rw [zcG] at h; rw [h]
@[congr high] theorem zAY {d d':D} {f:List D→Option R} (h:idf d=d'):asAgg d f=asAgg d' f:=by rw [zcG] at h; rw [h]
@[congr high] theorem zAZ {d d':D} {f:List D→Option R} (h:idf d=d'):zeq d f=zeq d' f:=by rw [zcG] at h; rw [h]
@[congr high] theorem zB0 {d d':D} {f:D→Option R} (h:idf d=d'):asAt d f=asAt d' f:=by rw [zcG] at h; rw [h]
@[congr high] theorem zA0 {d d':List D} {f:D→Option R} (h:idf d=d'):zwo d f=zwo d' f:=by rw [zcG] at h; rw [h]
@[congr high] theorem zCj {k:Nat} {d d':D} {f:Nat→Option R} (h:idf d=d'):asH k d f=asH k d' f:=by rw [zcG] at h; rw [h]
@[congr high] theorem zA1 {d d':D} {f:Bool→Option R} (h:idf d=d'):zmx d f=zmx d' f:=by rw [zcG] at h; rw [h]
@[congr high] theorem zAE {d d':D} {f:Bool→Option R} (h:idf d=d'):znz d f=znz d' f:=by rw [zcG] at h; rw [h]
@[congr high] theorem zAF {kk:MK} {d d':D} {f:List (Int×D)→Option R} (h:idf d=d'):zgq kk d f=zgq kk d' f:=by rw [zcG] at h; rw [h]
@[congr high] theorem zA2 {kk:MK} {d d':D} {f:List (Int×D)→Option R} (h:idf d=d'):znA kk d f=znA kk d' f:=by rw [zcG] at h; rw [h]
@[congr high] theorem zB1 {T T':Tb} {f:Tb→Option R} (h:idf T=T'):letT T f=letT T' f:=by rw [zcG] at h; rw [h]
@[congr high] theorem zA3 {l l':List α} {f:α→List α→Option R} (h:idf l=l'):zbF l f=zbF l' f:=by rw [zcG] at h; rw [h]
@[congr high] theorem zB2 {l l':List α} {x:Option R} (h:idf l=l'):nilK l x=nilK l' x:=by rw [zcG] at h; rw [h]
@[congr high] theorem zyZ {ls:List Lf} {d d':List D} {f:LfT ls→Option R} (h:idf d=d'):zau ls d f=zau ls d' f:=by rw [zcG] at h; rw [h]
@[congr high] theorem zA4 {B:(α→Option R)→α→Option R} {a a':α} (h:idf a=a'):zcR B a=zcR B a':=by rw [zcG] at h; rw [h]
end
@[simp] theorem zCk (k i:Nat):zjs (.h k i 0)=true:=rfl
@[simp] theorem zCM (k i:Nat):D.free (.h k i 0)=true:=rfl
@[simp] theorem zmu {R:Type} (a b:D) (f:LfT [.any,.any]→Option R):zau [.any,.any] [a,b] f=f (a,b,()):=by rw [zfQ,zfQ,zfP]
@[simp] theorem zCl {β:Type} {l:List β} {n:Nat} (h:l.length=n):cut 0 n l=l:=by subst h; exact zes l
end Wf

namespace Wf
open Go Go.RowKit Go.Proofs
set_option linter.unusedSimpArgs false
set_option linter.unusedVariables false
set_option maxHeartbeats 4000000
theorem zxE {T0:Tb} {b:Nat} {idx:List Nat}:∀ (l:List Act) (B:Ben),(∀ a∈l,a.isW=false)→P0 T0 b idx (does B l)=P0 T0 b idx B
  | [],B,_=>rfl
  | a::l,B,h=>by
    show P0 T0 b idx (does (B.does1 a) l)=_
    rw [zxE l _ fun a ha=>h a (List.mem_cons_of_mem _ ha)]
    have:=h a (List.mem_cons_self ..)
    cases a with
    | w d a x=>cases this
    | f d=>rfl
theorem zAG (B:Ben) (live:List Bool):∀ a∈B.fActs live,a.isW=false:=by
  intro a ha
  unfold Ben.fActs at ha
  obtain ⟨e,he,ha⟩:=List.mem_flatMap.1 ha
  split at ha
  · rw [List.mem_singleton.1 ha]; rfl
  · cases ha
structure Run (U V:Tb) (b:Nat) (idx:List Nat) (B:Ben) (n:Nat) (K:Int):Prop where
  at':At U V b idx B
  num:B.n=n
  down:B.down=false
  left:B.left= -1
  w:B.w≤K
theorem Run.mono {U V:Tb} {b:Nat} {idx:List Nat} {B:Ben} {n:Nat} {K L:Int} (h:Run U V b idx B n K) (hk:K≤L):Run U V b idx B n L:=⟨h.at',h.num,h.down,h.left,by have:=h.w; omega⟩
section
variable {U V:Tb} {b:Nat} {idx:List Nat} {B:Ben} {n:Nat} {K:Int}
theorem Run.up (h:Run U V b idx B n K) {d:Int} (d0:0≤d):B.up (List.replicate n true) d=(decide (d < n) && !B.failed d):=zBW h.num d0
theorem Run.is (h:Run U V b idx B n K) {d:Int} (d0:0≤d) (d1:d < n):B.is d=true:=zfi.2 ⟨d0,by rw [h.num]; exact d1⟩
theorem Run.write (h:Run U V b idx B n K) (hK:K≤900000) (tg:Tag) (live:List Bool) {g:Geo} {r:Int} (hr:zcs g r=true) (tg2:Tag) {data:List (List Int)} (hR:Row g data):∃ B1,
    zgb [.h kB b 0,.sl tg (live.map D.bool),.agg [.int .i64 g.l,.int .i64 g.d,.int .i64 g.c],.int .i64 r,.sl tg2 (pL (fP data))] [P0 U b idx B,P1 V idx B]=some (Ans.mk (.int .i64 0) [] [P0 U b idx B1,P1 V idx B1])∧
    Run U V b idx B1 n (K+8)∧(∀ e,B1.failed e=B.failed e)∧B1=does B (B.wActs live g r data)∧(∀ e a:Int,0≤e→e < g.d→0≤a→a < 52→B1.cur e a=if a=36+r∧B.up live e=true then atR g r data e else B.cur e a):=by
  obtain ⟨hw1,hD1⟩:=ztK h.at'.ok h.down (live:=live) hr hR (.inl (by rw [h.left]; omega))
  have hdd:=ok_d (zbP.1 hr).1
  have hw:=h.w
  have hwd:=zeV (zbP.1 hr).1
  have hsw:=zsF h.at' (by omega) tg live g r tg2 (ps:=fP data) (by have:=hR.len; simp; omega) (by intro x hx; obtain ⟨y,hy,rfl⟩:=List.mem_map.1 hx; exact hR.sec y hy)
  rw [zsD,hw1] at hsw
  have hn:=zuK B live g r data
  have hnx:=hD1.nx.w
  refine ⟨does B (B.wActs live g r data),hsw,⟨h.at'.nx hD1.nx,hD1.nx.n.trans h.num,hD1.down.trans h.down,by rw [hD1.left,h.left]; rfl,by omega⟩,hD1.failed,rfl,fun e a e0 e1 a0 a1=>zxC hD1 e0 e1 a0 a1⟩
theorem Run.flush (h:Run U V b idx B n K) (hK:K≤900000) (tg:Tag) (live:List Bool):∃ B1,
    zgd [.h kB b 0,.sl tg (live.map D.bool)] [P0 U b idx B,P1 V idx B]=some (Ans.mk (.int .i64 0) [] [P1 V idx B1])∧P0 U b idx B=P0 U b idx B1∧
    Run U V b idx B1 n K∧(∀ e,B1.failed e=B.failed e)∧B1=does B (B.fActs live)∧(∀ e a:Int,0≤e→0≤a→a < 52→B1.cur e a=B.cur e a):=by
  obtain ⟨hw1,hD1⟩:=ztL h.at'.ok h.down live (.inl (by rw [h.left]; omega))
  have hw:=h.w
  have hsf:=zsG h.at' (by omega) tg live
  rw [hw1] at hsf
  have hnx:=hD1.nx.w
  rw [zq7] at hnx
  refine ⟨does B (B.fActs live),hsf,(zxE _ _ (zAG B live)).symm,⟨h.at'.nx hD1.nx,hD1.nx.n.trans h.num,hD1.down.trans h.down,by rw [hD1.left,h.left,zq7]; rfl,by omega⟩,hD1.failed,rfl,fun e a e0 a0 a1=>zxB hD1 e0 a0 a1⟩
theorem Run.fail (h:Run U V b idx B n K) {d:Int} (d0:0≤d) (d1:d < n):∃ B1,
    zaU [.h kB b 0,.int .i64 d] [P0 U b idx B,P1 V idx B]=some (Ans.mk (.int .i64 0) [] [P1 V idx B1])∧P0 U b idx B=P0 U b idx B1∧
    Run U V b idx B1 n K∧(∀ e:Int,0≤e→e < n→B1.failed e=(decide (e=d) || B.failed e))∧B1=(B.fail d).2∧(∀ e a:Int,0≤e→e≠d→B1.cur e a=B.cur e a):=by
  have hd:=h.is d0 d1
  obtain ⟨f1,f2,f3,f4,f5⟩:=zxA hd
  have hf:=zBL h.at' d
  rw [f1] at hf
  have hp:P0 U b idx B=P0 U b idx (B.fail d).2:=by unfold Ben.fail; rw [if_pos hd]; rfl
  have hnx:=zAm (d:=d) h.at'.ok
  refine ⟨(B.fail d).2,hf,hp,⟨h.at'.nx hnx,f2.trans h.num,f3.trans h.down,f4.trans h.left,by rw [f5]; exact h.w⟩,fun e e0 e1=>ztJ hd (h.is e0 e1),rfl,fun e a e0 hne=>zyV hd e0 hne⟩
end
end Wf

namespace Wf
open Go Go.RowKit Go.Proofs
set_option linter.unusedSimpArgs false
set_option linter.unusedVariables false
set_option maxHeartbeats 4000000
@[simp ↓] theorem zCN {R α:Type} (g:α→Option R) (f:(α→Option R)→Option R):jn g f=f g:=rfl
section
variable {T0 T1:Tb} {b:Nat} {idx:List Nat} {B:Ben}
end
end Wf

namespace Wf
open Go Go.RowKit Go.Proofs
set_option linter.unusedSimpArgs false
set_option linter.unusedVariables false
set_option maxHeartbeats 4000000
def Ben.nP (B:Ben) (d:Int):Nat:=(B.dk d).pend.length
section
variable {B:Ben}
theorem zuM {a:Act} (h:a.Ok B) {e:Int} (e0:0≤e):(B.does1 a).nP e=match a with
    | .w d _ _=>if e=d then B.nP e+1 else B.nP e
    | .f d=>if e=d then 0 else B.nP e:=by
  cases a with
  | w d a x=>
    show (((B.junk ((B.dk d).write a x).2).less.setD d ((B.dk d).add a x)).dk e).pend.length=if e=d then B.nP e+1 else B.nP e
    rw [zf1 (by simpa using h.1) e0]
    by_cases he:e=d
    · subst he; rw [if_pos rfl,if_pos rfl]; simp [DS.add,Ben.nP]
    · rw [if_neg he,if_neg he]; rfl
  | f d=>
    show ((B.setD d (B.dk d).flushed).dk e).pend.length=if e=d then 0 else B.nP e
    rw [zf1 h.1 e0]
    by_cases he:e=d
    · subst he; rw [if_pos rfl,if_pos rfl]; rfl
    · rw [if_neg he,if_neg he]; rfl
theorem zAH {as':List Act} (hB:B.Ok):(∀ a∈as',a.Ok B)→(does B as').Ok∧∀ c:Act,c.Ok B→c.Ok (does B as'):=by
  induction as' generalizing B with
  | nil=>intro _; exact ⟨hB,fun c hc=>hc⟩
  | cons a l ih=>
    intro h
    have ha:=h a (List.mem_cons_self ..)
    obtain ⟨i1,i2⟩:=ih (ziW hB ha).ok fun c hc=>zm0 hB ha (h c (List.mem_cons_of_mem _ hc))
    exact ⟨i1,fun c hc=>i2 c (zm0 hB ha hc)⟩
end
end Wf

namespace Wf
open Go Go.RowKit Go.Proofs
set_option linter.unusedSimpArgs false
set_option linter.unusedVariables false
set_option maxHeartbeats 4000000
end Wf

namespace Wf
open Go Go.RowKit Go.Proofs
set_option linter.unusedSimpArgs false
set_option linter.unusedVariables false
set_option maxHeartbeats 4000000
theorem zvF {l:List Int} (h:l=[]∨Sec l):Sec (zhw 32 l):=by
  rcases h with rfl | h
  · rw [zr8]; exact zkM
  · rw [znX h.len]; exact h
theorem zm4 {ls:List (List Int)} {j:Nat} {x:List Int} (h:∀ y∈ls,Sec y) (hx:Sec x):∀ y∈ls.set j x,Sec y:=fun y hy=>by
  rcases List.mem_or_eq_of_mem_set hy with hy | hy
  · exact h y hy
  · rw [hy]; exact hx
theorem zvG {p q:List Int} {ls o:List (List Int)} (hp:p=[]∨Sec p) (hq:q=[]∨Sec q) (hl:∀ l∈ls,l=[]∨Sec l) (h:zh7 p q ls=some o):∀ x∈o,Sec x:=by
  have hf:∀ x∈zbV ls,Sec x:=fun x hx=>by
    obtain ⟨y,hy,rfl⟩:=List.mem_map.1 hx
    exact zvF (hl y hy)
  have hP:=zqw hf
  have hQ:=zqx hf
  unfold zh7 at h
  split at h
  · cases h
  split at h
  · cases h
  rename_i hc
  rw [zqy] at hc
  split at h
  · rename_i j k hm
    rw [hm] at hc
    have hp1:Sec p:=hp.resolve_left fun e=>by rw [if_pos e] at hc; simp at hc
    have hq1:Sec q:=hq.resolve_left fun e=>by rw [if_pos e] at hc; simp at hc
    cases h
    have hX:Sec (twoX p q (zbV ls) j k):=zkN _ (zf0 (zf0 hq1 hQ) (zkN _ (zf0 hp1 hP)))
    exact zm4 (zm4 hf hX) (zf0 (zf0 hp1 hP) hX)
  · rename_i j hm
    rw [hm] at hc
    split at h
    · rename_i h0
      have hp1:Sec p:=hp.resolve_left fun e=>by rw [e] at h0; simp at h0
      cases h
      exact zm4 hf (zf0 hp1 hP)
    · rename_i h0
      have hp0:p=[]:=by cases p; rfl; simp at h0
      have hq1:Sec q:=hq.resolve_left fun e=>by rw [if_pos e,if_pos hp0] at hc; simp at hc
      cases h
      exact zm4 hf (zkN _ (zf0 hq1 hQ))
  · cases h; exact hf
section
variable {B:Ben}
theorem zAI (hB:B.Ok) {d a:Int} (a0:0≤a) (a1:a < 52):Sec (B.cur d a):=zBw (zn0 hB d).1 a0 a1
theorem zsH (hB:B.Ok) {live:List Bool} {g:Geo} {r:Int} (h:(B.sRead live g r).2=0):Row g (B.sRead live g r).1∧zcs g r=true:=by
  unfold Ben.sRead at h ⊢
  split at h
  · exact absurd h (by decide)
  rename_i hr
  have hr:zcs g r=true:=by simpa using hr
  rw [if_neg (by simp [hr])]
  split at h
  · exact absurd h (by decide)
  rename_i hd
  rw [if_neg hd]
  cases ht:zox g r (B.secs live r g.d.toNat) with
  | none=>rw [ht] at h; exact absurd h (by decide)
  | some o=>
    refine ⟨⟨?_,?_⟩,hr⟩
    · have:=zyR ht
      have:=zeV (zbP.1 hr).1
      show (o.length:Int)=_
      omega
    · obtain ⟨hk,r0,r1⟩:=zbP.1 hr
      have hs:∀ j:Nat,(B.secs live r g.d.toNat).getD j []=[]∨Sec ((B.secs live r g.d.toNat).getD j []):=by
        intro j
        unfold Ben.secs
        rw [List.getD_eq_getElem?_getD,List.getElem?_map]
        cases (List.range g.d.toNat)[j]? with
        | none=>exact .inl rfl
        | some d=>
          show (if B.up live d=true then _ else _)=[]∨Sec (if B.up live d=true then _ else _)
          split
          · exact .inr (zAI hB (by omega) (by omega))
          · exact .inl rfl
      unfold zox at ht
      split at ht
      rotate_left
      · cases ht
      refine zvG (hs _) ?_ (fun l hl=>?_) ht
      · unfold qOf
        split
        · exact .inl rfl
        · exact hs _
      · obtain ⟨j,_,rfl⟩:=List.mem_map.1 hl
        exact hs _
end
def mayR (a to:Geo) (split:Int):Bool:=a.ok && decide (0≤split) && decide (split≤16) && (decide (split=0) || to.ok)
theorem rebuild_may (a to:Geo) (split:Int):zbx [.agg [.int .i64 a.l,.int .i64 a.d,.int .i64 a.c],.agg [.int .i64 to.l,.int .i64 to.d,.int .i64 to.c],.int .i64 split]=some (.bool (mayR a to split)):=by
  rw [zmA]
  unfold zg6 mayR
  have h1:zaf [.agg [.int .i64 a.l,.int .i64 a.d,.int .i64 a.c]]=some (.int .i64 (if a.ok then 0 else 1)):=zej a.l a.d a.c
  have h2:zaf [.agg [.int .i64 to.l,.int .i64 to.d,.int .i64 to.c]]=some (.int .i64 (if to.ok then 0 else 1)):=zej to.l to.d to.c
  cases hk:a.ok<;>rw [hk] at h1
  · simp [h1]
  · cases hk2:to.ok<;>rw [hk2] at h2<;>by_cases c1:0≤split<;>by_cases c2:split≤16<;>by_cases c3:split=0<;>simp [zcd,h1,h2,c1,c2,c3]<;>omega
def gAt (a to:Geo) (split:Int) (r:Nat):Geo:=if (r:Int) < split then to else a
def Ben.rOne (B:Ben) (live:List Bool) (d:Int) (g:Geo) (r:Int):Int×Ben:=
  if (B.sRead live g r).2≠0 then ((B.sRead live g r).2,B) else B.write d (36+r) (atR g r (B.sRead live g r).1 d)
def Ben.rStep (live:List Bool) (d:Int) (a to:Geo) (split:Int) (r:Nat) (B:Ben):Int×Ben:=
  if (gAt a to split r).d≤d then (0,B) else B.rOne live d (gAt a to split r) r
def Ben.rRows (B:Ben) (live:List Bool) (d:Int) (a to:Geo) (split:Int):Int×Ben:=
  if (runE (Ben.rStep live d a to split) 0 16 B).1=0 then (runE (Ben.rStep live d a to split) 0 16 B).2.flush d else runE (Ben.rStep live d a to split) 0 16 B
def Ben.rDisk (B:Ben) (live:List Bool) (d:Int) (a to:Geo) (split:Int):Int×Ben:=
  if d < 0∨B.n≤d∨(live[d.toNat]?).getD false=true∨mayR a to split=false then (1,B)
  else if B.failed d=true then (5,B) else B.rRows live d a to split
section
variable {T0 T1:Tb} {b:Nat} {idx:List Nat} {B:Ben}
theorem zxF (hB:B.Ok) {live:List Bool} {d:Int} {g:Geo} {r:Int} (d0:0≤d) (d1:d < g.d):Nx 1 B (B.rOne live d g r).2∧Like B (B.rOne live d g r).2:=by
  unfold Ben.rOne
  split
  · exact ⟨.rfl' hB (by omega),.refl B⟩
  · rename_i h
    obtain ⟨hR,hr⟩:=zsH hB (Classical.not_not.1 h)
    exact ⟨zuu hB (.inl (zuB hr hR d0 d1)),zpL ..⟩
theorem rebuild_one (h:At T0 T1 b idx B) (hw:B.w≤1000000) (tg:Tag) (live:List Bool) {d:Int} {g:Geo} {r:Int} (d0:0≤d) (d1:d < g.d):
    zbc [.h kB b 0,.sl tg (live.map D.bool),.int .i64 d,.agg [.int .i64 g.l,.int .i64 g.d,.int .i64 g.c],.int .i64 r] [P0 T0 b idx B,P1 T1 idx B]=
      some (Ans.mk (.int .i64 (B.rOne live d g r).1) [] [P0 T0 b idx (B.rOne live d g r).2,P1 T1 idx (B.rOne live d g r).2]):=by
  rw [zmR,zgK]
  unfold zhf Ben.rOne
  have hrd:=ztF h hw .lent live g r
  by_cases he:(B.sRead live g r).2=0
  · obtain ⟨hR,hr⟩:=zsH h.ok he
    obtain ⟨hk,r0,r1⟩:=zbP.1 hr
    have hw2:=zeV hk
    have hdd:=ok_d hk
    rw [he] at hrd
    rw [if_neg (by simp [he])]
    generalize (B.sRead live g r).1=data at*
    have hlen:=hR.len
    have hfill:=zuJ g r .lent (ps:=fP data) (by simp; omega)
    rw [zsD,zsg hr hR] at hfill
    have hg:(pL (fP (zhm g r data)))[d.toNat]? =some (.sl .fresh (uL (atR g r data d))):=zdt (zuG (by
      have:=zlz (g:=g) (r:=r) (data:=data) (d:=d.toNat) (by omega)
      rw [show ((d.toNat:Nat):Int)=d by omega] at this; exact this))
    have hwr:=zxh h hw d (36+r) .fresh (atR g r data d)
    have hrl:=zlA g r data
    simp (disch:=first | omega | assumption | (simp; done) | fail) [-List.all_eq_true,hrd,zl2,hfill,solD,zat,zap hg,hwr,hrl,d0]
  · simp [-List.all_eq_true,hrd,he]
theorem ziH (h:At T0 T1 b idx B) (hw:B.w≤999000) (tg:Tag) (live:List Bool) (d:Int) (a to:Geo) (split:Int):
    zam [.h kB b 0,.sl tg (live.map D.bool),.int .i64 d,.agg [.int .i64 a.l,.int .i64 a.d,.int .i64 a.c],.agg [.int .i64 to.l,.int .i64 to.d,.int .i64 to.c],.int .i64 split] [P0 T0 b idx B,P1 T1 idx B]=
      some (Ans.mk (.int .i64 (B.rDisk live d a to split).1) [] [P0 T0 b idx (B.rDisk live d a to split).2,P1 T1 idx (B.rDisk live d a to split).2]):=by
  rw [zlY,zgK]
  unfold zga Ben.rDisk
  have hl:=zvw h
  have hm:=rebuild_may a to split
  have hf:=zuF h d
  by_cases c0:d < 0
  · simp [c0]
  by_cases c1:B.n≤d
  · simp [c0,c1,hl]
  have loop:mayR a to split=true→B.failed d=false→∀ (X:Option Ans),X=zcR (α:=(Nat×List D×Int×Int×(Int×Int×Int×PUnit)×(Int×Int×Int×PUnit)×Int×PUnit)×List (List D)×List (List D)×PUnit) (fun again9 ((x10,(l11,(i12,(i13,((i14,(i15,(i16,_))),((i17,(i18,(i19,_))),(i20,_))))))),(U21,(U22,_)))=>
                brK (decide (i20 < (16:Int)))
                  (brK (decide (i20 < i13))
                    (brK (decide (i12≥i18))
                      (letN (IntKind.wrap IntKind.i64 (i20+(1:Int))) fun n23=>
                      again9 (((x10,l11,i12,i13,(i14,i15,i16,PUnit.unit),(i17,i18,i19,PUnit.unit),n23,PUnit.unit),U21,U22,PUnit.unit)))
                      (zar (zbc [D.h (3840) x10 (0:Nat),D.sl Tag.lent l11,D.int IntKind.i64 i12,D.agg [D.int IntKind.i64 i17,D.int IntKind.i64 i18,D.int IntKind.i64 i19],D.int IntKind.i64 i20] [U21,U22]) fun r24=>
                      nilK r24.outs <|
                      zbF r24.tbs fun c25 q26=>
                      zbF q26 fun c27 q28=>
                      nilK q28 <|
                      asI IntKind.i64 r24.r fun i29=>
                      brK (i29 != (0:Int))
                        (some (Ans.mk (D.int IntKind.i64 i29) [] [c25,c27]))
                        (letN (IntKind.wrap IntKind.i64 (i20+(1:Int))) fun n30=>
                        again9 (((x10,l11,i12,i13,(i14,i15,i16,PUnit.unit),(i17,i18,i19,PUnit.unit),n30,PUnit.unit),c25,c27,PUnit.unit)))))
                    (brK (decide (i12≥i15))
                      (letN (IntKind.wrap IntKind.i64 (i20+(1:Int))) fun n31=>
                      again9 (((x10,l11,i12,i13,(i14,i15,i16,PUnit.unit),(i17,i18,i19,PUnit.unit),n31,PUnit.unit),U21,U22,PUnit.unit)))
                      (zar (zbc [D.h (3840) x10 (0:Nat),D.sl Tag.lent l11,D.int IntKind.i64 i12,D.agg [D.int IntKind.i64 i14,D.int IntKind.i64 i15,D.int IntKind.i64 i16],D.int IntKind.i64 i20] [U21,U22]) fun r32=>
                      nilK r32.outs <|
                      zbF r32.tbs fun c33 q34=>
                      zbF q34 fun c35 q36=>
                      nilK q36 <|
                      asI IntKind.i64 r32.r fun i37=>
                      brK (i37 != (0:Int))
                        (some (Ans.mk (D.int IntKind.i64 i37) [] [c33,c35]))
                        (letN (IntKind.wrap IntKind.i64 (i20+(1:Int))) fun n38=>
                        again9 (((x10,l11,i12,i13,(i14,i15,i16,PUnit.unit),(i17,i18,i19,PUnit.unit),n38,PUnit.unit),c33,c35,PUnit.unit))))))
                  (zar (zaq [D.h (3840) x10 (0:Nat),D.int IntKind.i64 i12] [U21,U22]) fun r39=>
                  nilK r39.outs <|
                  zbF r39.tbs fun c40 q41=>
                  nilK q41 <|
                  asI IntKind.i64 r39.r fun i42=>
                  some (Ans.mk (D.int IntKind.i64 i42) [] [U21,c40])))
                (((b,live.map D.bool,d,split,(a.l,a.d,a.c,PUnit.unit),(to.l,to.d,to.c,PUnit.unit),(0:Int),PUnit.unit),P0 T0 b idx B,P1 T1 idx B,PUnit.unit))→X=some (Ans.mk (.int .i64 (B.rRows live d a to split).1) [] [P0 T0 b idx (B.rRows live d a to split).2,P1 T1 idx (B.rRows live d a to split).2]):=by
    intro hmay hfd X hX
    rw [hX]
    clear hX
    let st:Nat→Ben→(Nat×List D×Int×Int×(Int×Int×Int×PUnit)×(Int×Int×Int×PUnit)×Int×PUnit)×List (List D)×List (List D)×PUnit:=fun k B'=>
      ((b,live.map D.bool,d,split,(a.l,a.d,a.c,PUnit.unit),(to.l,to.d,to.c,PUnit.unit),(k:Int),PUnit.unit),P0 T0 b idx B',P1 T1 idx B',PUnit.unit)
    have hst:st 0 B=((b,live.map D.bool,d,split,(a.l,a.d,a.c,PUnit.unit),(to.l,to.d,to.c,PUnit.unit),0,PUnit.unit),P0 T0 b idx B,P1 T1 idx B,PUnit.unit):=rfl
    rw [←hst]
    have hrr:B.rRows live d a to split=(fun y:Int×Ben=>if y.1=0 then y.2.flush d else y) (runE (Ben.rStep live d a to split) 0 16 B):=rfl
    rw [hrr]
    refine zn3 (Ben.rStep live d a to split) (fun k B'=>Nx k B B') st (fun y=>some (Ans.mk (.int .i64 (if y.1=0 then y.2.flush d else y).1) [] [P0 T0 b idx (if y.1=0 then y.2.flush d else y).2,P1 T1 idx (if y.1=0 then y.2.flush d else y).2])) 16 (by omega) (.rfl' h.ok (by omega)) ?_ ?_ ?_
    · rintro k B' hk' hx _
      unfold Ben.rStep
      split
      · exact hx.mono (by omega)
      · exact (hx.trans (zxF hx.ok (by omega) (by omega)).1).mono (by omega)
    · rintro again k B' hk' hx
      dsimp only [st]
      have hA:=h.nx hx
      have hxw:=hx.w
      have hw':B'.w≤1000000:=by omega
      have hk16:(k:Int) < 16:=by omega
      unfold Ben.rStep gAt
      by_cases hs:(k:Int) < split
      · rw [if_pos hs]
        by_cases hd:to.d≤d
        · rw [if_pos hd]
          simp (disch:=first | omega | assumption | (simp; done) | fail) [hk16,hs,hd,zat]
        · rw [if_neg hd]
          have hone:=rebuild_one hA hw' .lent live (d:=d) (g:=to) (r:=(k:Int)) (by omega) (by omega)
          by_cases he:(B'.rOne live d to k).1=0
          · simp (disch:=first | omega | assumption | (simp; done) | fail) [hk16,hs,hd,zat,hone,he]
          · simp (disch:=first | omega | assumption | (simp; done) | fail) [hk16,hs,hd,zat,hone,he]
      · rw [if_neg hs]
        by_cases hd:a.d≤d
        · rw [if_pos hd]
          simp (disch:=first | omega | assumption | (simp; done) | fail) [hk16,hs,hd,zat]
        · rw [if_neg hd]
          have hone:=rebuild_one hA hw' .lent live (d:=d) (g:=a) (r:=(k:Int)) (by omega) (by omega)
          by_cases he:(B'.rOne live d a k).1=0
          · simp (disch:=first | omega | assumption | (simp; done) | fail) [hk16,hs,hd,zat,hone,he]
          · simp (disch:=first | omega | assumption | (simp; done) | fail) [hk16,hs,hd,zat,hone,he]
    · rintro again B' hx
      dsimp only [st]
      have hA:=h.nx hx
      have hxw:=hx.w
      have hfl:=zxi hA (by omega) d
      have hp:P0 T0 b idx (B'.flush d).2=P0 T0 b idx B':=by unfold Ben.flush; split<;>rfl
      simp [hfl,hp]
  by_cases c2:d < (live.length:Int)
  · have hgl:(live.map D.bool)[d.toNat]? =some (.bool ((live[d.toNat]?).getD false)):=by
      rw [List.getElem?_map,List.getElem?_eq_getElem (by omega)]; rfl
    generalize (live[d.toNat]?).getD false=lv at*
    cases lv with
    | true=>simp [c0,c1,c2,hl,zap hgl,show 0≤d by omega]
    | false=>
      cases c4:mayR a to split
      · rw [c4] at hm
        simp [c0,c1,c2,hl,zap hgl,show 0≤d by omega,hm]
      · rw [c4] at hm
        cases c5:B.failed d
        · rw [c5] at hf
          rw [if_neg (by simp; omega),if_neg (by simp)]
          refine Eq.trans ?_ (loop c4 c5 _ rfl)
          simp [c0,c1,c2,hl,zap hgl,show 0≤d by omega,hm,hf]
        · rw [c5] at hf
          simp [c0,c1,c2,hl,zap hgl,show 0≤d by omega,hm,hf]
  · have c3':(live[d.toNat]?).getD false=false:=by rw [List.getElem?_eq_none (by omega)]; rfl
    rw [c3']
    cases c4:mayR a to split
    · rw [c4] at hm
      simp [c0,c1,c2,hl,hm]
    · rw [c4] at hm
      cases c5:B.failed d
      · rw [c5] at hf
        rw [if_neg (by simp; omega),if_neg (by simp)]
        refine Eq.trans ?_ (loop c4 c5 _ rfl)
        simp [c0,c1,c2,hl,hm,hf]
      · rw [c5] at hf
        simp [c0,c1,c2,hl,hm,hf]
end
end Wf

namespace Wf
open Go Go.RowKit
set_option linter.unusedSimpArgs false
set_option linter.unusedVariables false
structure Win (x y:Geo) (k:Int):Prop where
  can:x.can y=true
  xok:x.ok=true
  yok:y.ok=true
  r:zib x y=1∨zib x y=2∨zib x y=4
  xc:x.c≤zib x y
  yc:y.c≤zib x y
  r0:0≤k*zib x y
  r1:(k+1)*zib x y≤16
  rr:(k+1)*zib x y=k*zib x y+zib x y
  s1:(zse x y k).1=k*(zib x y*y.width)
  s2:(zse x y k).2=(k+1)*(zib x y*y.width)
  ss:(zse x y k).2=(zse x y k).1+zib x y*y.width
  s0:0≤(zse x y k).1
  se:(zse x y k).2≤y.cap
  m:2≤zib x y*y.width∧zib x y*y.width≤28
end Wf

namespace Wf
open Go Go.RowKit Go.Proofs
set_option linter.unusedSimpArgs false
set_option linter.unusedVariables false
set_option maxHeartbeats 4000000
section
variable (a to:Geo) (k:Int)
end
def Act.sec:Act→Prop
  | .w _ _ x=>Sec x
  | .f _=>True
section
variable {T0 T1:Tb} {b:Nat} {idx:List Nat} {B:Ben}
end
end Wf

namespace Wf
open Go Go.RowKit Go.Proofs
set_option linter.unusedSimpArgs false
set_option linter.unusedVariables false
set_option maxHeartbeats 4000000
theorem zpM {σ:Type} {f g:Nat→σ→Int×σ} (I:Nat→σ→Prop):∀ (n k:Nat) (s:σ),I k s→(∀ j s,k≤j→j < k+n→I j s→f j s=g j s)→(∀ j s,k≤j→j < k+n→I j s→(f j s).1=0→I (j+1) (f j s).2)→runE f k n s=runE g k n s
  | 0,k,s,_,_,_=>rfl
  | n+1,k,s,hI,h1,h2=>by
    unfold runE
    have e:=h1 k s (by omega) (by omega) hI
    have h3:=h2 k s (by omega) (by omega) hI
    rw [←e]
    by_cases h0:(f k s).1=0
    · rw [if_pos h0,if_pos h0]
      exact zpM I n (k+1) _ (h3 h0) (fun j s a b=>h1 j s (by omega) (by omega)) fun j s a b=>h2 j s (by omega) (by omega)
    · rw [if_neg h0,if_neg h0]
section
variable {B B':Ben} {live:List Bool}
def Act.d:Act→Int
  | .w d _ _=>d
  | .f d=>d
theorem zxG {e:Int} (e0:0≤e):∀ (l:List Act) {B:Ben},B.Ok→(∀ a∈l,a.Ok B)→(∀ a∈l,a.d≠e)→(does B l).nP e=B.nP e
  | [],B,_,_,_=>rfl
  | a::l,B,hB,h1,h2=>by
    have ha:=h1 a (List.mem_cons_self ..)
    show (does (B.does1 a) l).nP e=_
    rw [zxG e0 l (ziW hB ha).ok (fun c hc=>zm0 hB ha (h1 c (List.mem_cons_of_mem _ hc))) fun c hc=>h2 c (List.mem_cons_of_mem _ hc),zuM ha e0]
    have:=h2 a (List.mem_cons_self ..)
    cases a with
    | w d a x=>exact if_neg (fun q=>this q.symm)
    | f d=>exact if_neg (fun q=>this q.symm)
end
section
variable {a to:Geo} {k:Int} {data:List (List Int)}
structure WinD (a to:Geo) (k:Int) (data:List (List Int)):Prop where
  k0:0≤k
  k1:k < winP a to
  len:(data.length:Int)=(zse a to k).2 - (zse a to k).1
  sec:∀ x∈data,Sec x
variable {B:Ben} {live:List Bool}
end
section
variable {U V:Tb} {b:Nat} {idx:List Nat} {B:Ben} {n:Nat} {K:Int}
theorem zxH (T0 T1:Tb) {n:Nat} (h0:1≤n) (h8:n≤8):∃ U V idx,
    za2 [.int .i64 n] [T0,T1]=some (Ans.mk (.tup [.h kB T0.length 0,.int .i64 0]) [] [P0 U T0.length idx (Ben.new n),P1 V idx (Ben.new n)])∧
    Run U V T0.length idx (Ben.new n) n 0∧Still (Ben.new n):=
  ⟨_,_,_,zCC T0 T1 h0 h8,⟨zBS T0 T1 h8,by simp [Ben.new,Ben.n],rfl,rfl,Int.le_refl _⟩,zxy h8⟩
end
end Wf

namespace Wf
open Go Go.RowKit Go.Proofs
set_option linter.unusedSimpArgs false
set_option linter.unusedVariables false
set_option maxHeartbeats 4000000
end Wf

namespace Wf
open Go Go.RowKit Go.Proofs
set_option linter.unusedSimpArgs false
set_option linter.unusedVariables false
set_option maxHeartbeats 4000000
section
variable {B:Ben}
theorem zvH {d a:Int} {x:List Int} (h:(B.write d a x).1=0):(B.write d a x).2.down=B.down∧∀ e b:Int,0≤e→e≠d→(B.write d a x).2.cur e b=B.cur e b:=by
  unfold Ben.write at h ⊢
  split at h
  · rename_i h0; exact absurd h h0
  rename_i h0
  rw [if_neg h0]
  split at h
  · rename_i h1; exact absurd h h1
  rename_i h1
  rw [if_neg h1]
  split at h
  · exact absurd (show (6:Int)=0 from h) (by decide)
  rename_i h2
  rw [if_neg h2]
  have hd:=may0.1 (Classical.not_not.1 h0)
  refine ⟨rfl,fun e b e0 he=>?_⟩
  unfold Ben.cur
  rw [zf1 (by simpa using hd.1) e0,if_neg he]
  rfl
def rAct (dat:Nat→List (List Int)) (d:Int) (a to:Geo) (split:Int) (r:Nat):List Act:=if (gAt a to split r).d≤d then [] else [.w d (36+r) (atR (gAt a to split r) r (dat r) d)]
def zhL (dat:Nat→List (List Int)) (d:Int) (a to:Geo) (split:Int) (m:Nat):List Act:=(List.range m).flatMap (rAct dat d a to split)
def zy0 (B:Ben) (live:List Bool) (d:Int) (a to:Geo) (split:Int) (dat:Nat→List (List Int)):Prop:=
  ∀ r:Nat,r < 16→d < (gAt a to split r).d→Row (gAt a to split r) (dat r)∧(B.lostN live (gAt a to split r):Int)≤(gAt a to split r).l - 4∧
    ∀ e:Int,0≤e→e < (gAt a to split r).d→B.up live e=true→B.cur e (36+r)=atR (gAt a to split r) r (dat r) e
theorem zi2 {a to:Geo} {split:Int}:mayR a to split=true↔a.ok=true∧0≤split∧split≤16∧(split=0∨to.ok=true):=by unfold mayR; simp [and_assoc]
theorem zzn {a to:Geo} {split:Int} (h:mayR a to split=true) (r:Nat):(gAt a to split r).ok=true:=by
  obtain ⟨h1,h2,h3,h4⟩:=zi2.1 h
  unfold gAt
  split
  · exact h4.resolve_left (by omega)
  · exact h1
theorem zm5 {a to:Geo} {split:Int} (h:mayR a to split=true) {r:Nat} (hr:r < 16):zcs (gAt a to split r) r=true:=zbP.2 ⟨zzn h r,by omega,by omega⟩
theorem Like.lostN {B':Ben} (h:Like B B') (live:List Bool) (g:Geo):B'.lostN live g=B.lostN live g:=by unfold Ben.lostN; simp only [h.up]
theorem zB3 {live:List Bool} {d:Int} (h:(live[d.toNat]?).getD false=false):B.up live d=false:=by unfold Ben.up; rw [h]; simp
theorem zvI (hB:B.Ok) (hdn:B.down=false) {live:List Bool} {d:Int} {a to:Geo} {split:Int} {dat:Nat→List (List Int)} (d0:0≤d) (d1:d < B.n) (hl:(live[d.toNat]?).getD false=false) (hm:mayR a to split=true)
    (hf:B.failed d=false) (hS:zy0 B live d a to split dat):B.rDisk live d a to split=runA (zhL dat d a to split 16++[.f d]) B:=by
  unfold Ben.rDisk
  rw [if_neg (by rw [hl,hm]; simp; omega),hf,if_neg (by simp)]
  unfold Ben.rRows
  have hrows:runE (Ben.rStep live d a to split) 0 16 B=runA (zhL dat d a to split 16) B:=by
    unfold zhL
    rw [zpM (g:=fun r B'=>runA (rAct dat d a to split r) B') (fun _ B'=>B'.Ok∧Like B B'∧B'.down=false∧∀ e b:Int,0≤e→e≠d→B'.cur e b=B.cur e b) _ _ _ ⟨hB,.refl B,hdn,fun _ _ _ _=>rfl⟩ ?_ ?_,zld,List.range_eq_range']
    · rintro r B' _ hr ⟨hB',hL,hdn',hc⟩
      unfold Ben.rStep rAct
      split
      · rfl
      · rename_i hd
        obtain ⟨hR,hlo,hrow⟩:=hS r (by omega) (by omega)
        have hrd:=zyu (B:=B') (live:=live) (zm5 hm (r:=r) (by omega)) hR hdn' fun e e0 e1 hu=>by
          rw [hL.up] at hu
          rw [hc e _ e0 (by rintro rfl; rw [zB3 hl] at hu; cases hu),hrow e e0 e1 hu]
        rw [hL.lostN,if_pos hlo] at hrd
        unfold Ben.rOne
        rw [hrd,if_neg (by simp),zi1]
        rfl
    · rintro r B' _ hr ⟨hB',hL,hdn',hc⟩ he
      unfold Ben.rStep at he ⊢
      split
      · exact ⟨hB',hL,hdn',hc⟩
      · rename_i hd
        rw [if_neg hd] at he
        obtain ⟨hx,hL2⟩:=zxF hB' (live:=live) (d:=d) (g:=gAt a to split r) (r:=r) d0 (by omega)
        unfold Ben.rOne at he hx hL2 ⊢
        split at he
        · rename_i h0; exact absurd he h0
        · rename_i h0
          rw [if_neg h0] at hx hL2 ⊢
          obtain ⟨h1,h2⟩:=zvH he
          exact ⟨hx.ok,hL.trans hL2,h1.trans hdn',fun e b e0 hne=>(h2 e b e0 hne).trans (hc e b e0 hne)⟩
  rw [hrows,zjR]
  by_cases h0:(runA (zhL dat d a to split 16) B).1=0
  · rw [if_pos h0,if_pos h0,zi1]; rfl
  · rw [if_neg h0,if_neg h0]
theorem zsI {dat:Nat→List (List Int)} {d:Int} {a to:Geo} {split:Int} {m:Nat} {x:Act} (h:x∈zhL dat d a to split m):∃ r:Nat,r < m∧d < (gAt a to split r).d∧x=.w d (36+r) (atR (gAt a to split r) r (dat r) d):=by
  obtain ⟨r,hr,hx⟩:=List.mem_flatMap.1 h
  have hr:=List.mem_range.1 hr
  unfold rAct at hx
  split at hx
  · cases hx
  · exact ⟨r,hr,by omega,List.mem_singleton.1 hx⟩
theorem zy1 {live:List Bool} {d:Int} {a to:Geo} {split:Int} {dat:Nat→List (List Int)} (d0:0≤d) (d1:d < B.n) (hm:mayR a to split=true) (hf:B.failed d=false) (hS:zy0 B live d a to split dat):∀ x∈zhL dat d a to split 16++[.f d],x.Ok B:=by
  have his:B.is d=true:=zfi.2 ⟨d0,d1⟩
  intro x hx
  rcases List.mem_append.1 hx with hx | hx
  · obtain ⟨r,hr,hd,rfl⟩:=zsI hx
    exact ⟨his,hf,by omega,by omega,zuB (zm5 hm hr) (hS r hr hd).1 d0 hd⟩
  · rw [List.mem_singleton.1 hx]; exact ⟨his,hf⟩
theorem zy2 {dat:Nat→List (List Int)} {d:Int} {a to:Geo} {split:Int}:nW (zhL dat d a to split 16++[.f d])≤16:=by
  have:∀ m,nW (zhL dat d a to split m)≤m:=by
    intro m
    induction m with
    | zero=>simp [nW,zhL]
    | succ m ih=>
      unfold zhL at ih ⊢
      rw [List.range_succ,List.flatMap_append,zn5]
      have:nW (List.flatMap (rAct dat d a to split) [m])≤1:=by
        simp only [List.flatMap_cons,List.flatMap_nil,List.append_nil]
        unfold rAct
        split
        · simp [nW]
        · exact Nat.le_trans (List.length_filter_le _ _) (by simp)
      omega
  rw [zn5]
  have:=this 16
  have:nW [Act.f d]=0:=rfl
  omega
theorem zvJ {dat:Nat→List (List Int)} {d:Int} {a to:Geo} {split:Int} {e b:Int} (c:Int→Int→List Int):
    curs c (zhL dat d a to split 16++[.f d]) e b=if e=d∧36≤b∧b < 52∧d < (gAt a to split (b - 36).toNat).d then atR (gAt a to split (b - 36).toNat) (b - 36) (dat (b - 36).toNat) d else c e b:=by
  have key:∀ m:Nat,curs c (zhL dat d a to split m) e b=if e=d∧36≤b∧b < 36+m∧d < (gAt a to split (b - 36).toNat).d then atR (gAt a to split (b - 36).toNat) (b - 36) (dat (b - 36).toNat) d else c e b:=by
    intro m
    induction m with
    | zero=>rw [if_neg (by omega)]; rfl
    | succ m ih=>
      unfold zhL at ih ⊢
      rw [List.range_succ,List.flatMap_append,zjS]
      simp only [List.flatMap_cons,List.flatMap_nil,List.append_nil]
      have hra:rAct dat d a to split m=if (gAt a to split m).d≤d then [] else [.w d (36+m) (atR (gAt a to split m) m (dat m) d)]:=rfl
      rw [hra]
      split
      · rename_i hd
        show curs c _ e b=_
        rw [ih]
        by_cases hb:b=36+m
        · rw [if_neg (by omega),if_neg (by rintro ⟨_,_,_,h⟩; rw [show (b - 36).toNat=m by omega] at h; omega)]
        · by_cases hc:e=d∧36≤b∧b < 36+m∧d < (gAt a to split (b - 36).toNat).d
          · rw [if_pos hc,if_pos ⟨hc.1,hc.2.1,by omega,hc.2.2.2⟩]
          · rw [if_neg hc,if_neg (fun q=>hc ⟨q.1,q.2.1,by omega,q.2.2.2⟩)]
      · rename_i hd
        show (if e=d∧b=36+m then _ else curs c _ e b)=_
        rw [ih]
        by_cases hb:e=d∧b=36+m
        · have e1:(b - 36).toNat=m:=by omega
          have e2:b - 36=m:=by omega
          rw [if_pos hb,if_pos ⟨hb.1,by omega,by omega,by rw [e1]; omega⟩,e1,e2]
        · rw [if_neg hb]
          by_cases hc:e=d∧36≤b∧b < 36+m∧d < (gAt a to split (b - 36).toNat).d
          · rw [if_pos hc,if_pos ⟨hc.1,hc.2.1,by omega,hc.2.2.2⟩]
          · rw [if_neg hc,if_neg (fun q=>hc ⟨q.1,q.2.1,by omega,q.2.2.2⟩)]
  rw [zjS]
  show curs c (zhL dat d a to split 16) e b=_
  rw [key]
  rfl
end
section
variable {U V:Tb} {b:Nat} {idx:List Nat} {B:Ben} {n:Nat} {K:Int}
theorem Run.rebuild (h:Run U V b idx B n K) (hK:K≤900000) (tg:Tag) {live:List Bool} {d:Int} {a to:Geo} {split:Int} {dat:Nat→List (List Int)} (d0:0≤d) (d1:d < n) (hl:(live[d.toNat]?).getD false=false) (hm:mayR a to split=true)
    (hf:B.failed d=false) (hS:zy0 B live d a to split dat):∃ B1,
    zam [.h kB b 0,.sl tg (live.map D.bool),.int .i64 d,.agg [.int .i64 a.l,.int .i64 a.d,.int .i64 a.c],.agg [.int .i64 to.l,.int .i64 to.d,.int .i64 to.c],.int .i64 split] [P0 U b idx B,P1 V idx B]=some (Ans.mk (.int .i64 0) [] [P0 U b idx B1,P1 V idx B1])∧
    Run U V b idx B1 n (K+16)∧(∀ e,B1.failed e=B.failed e)∧
    (∀ e x:Int,0≤e→0≤x→x < 52→B1.cur e x=if e=d∧36≤x∧d < (gAt a to split (x - 36).toNat).d then atR (gAt a to split (x - 36).toNat) (x - 36) (dat (x - 36).toNat) d else B.cur e x)∧
    (∀ e:Int,0≤e→B1.nP e=if e=d then 0 else B.nP e):=by
  have hw:=h.w
  have hr:=ziH h.at' (by omega) tg live d a to split
  have d1':d < B.n:=by rw [h.num]; exact d1
  have hok:=zy1 d0 d1' hm hf hS
  have hDo:=zm1 (zhL dat d a to split 16++[.f d]) h.at'.ok h.down hok (.inl (by rw [h.left]; omega))
  rw [zvI h.at'.ok h.down d0 d1' hl hm hf hS,hDo.run] at hr
  have hn:=zy2 (dat:=dat) (d:=d) (a:=a) (to:=to) (split:=split)
  have hnx:=hDo.nx.w
  refine ⟨_,hr,⟨h.at'.nx hDo.nx,hDo.nx.n.trans h.num,hDo.down.trans h.down,by rw [hDo.left,h.left]; rfl,by show (does B (zhL dat d a to split 16++[.f d])).w≤K+16; omega⟩,hDo.failed,fun e x e0 x0 x1=>?_,fun e e0=>?_⟩
  · rw [hDo.cur e x e0 x0 x1,zvJ]
    by_cases hc:e=d∧36≤x∧d < (gAt a to split (x - 36).toNat).d
    · rw [if_pos hc,if_pos ⟨hc.1,hc.2.1,x1,hc.2.2⟩]
    · rw [if_neg hc,if_neg (fun q=>hc ⟨q.1,q.2.1,q.2.2.2⟩)]
  · by_cases he:e=d
    · rw [if_pos he,ztl]
      have h2:=zAH h.at'.ok (as':=zhL dat d a to split 16) fun x hx=>hok x (List.mem_append_left _ hx)
      show ((does B (zhL dat d a to split 16)).does1 (.f d)).nP e=0
      rw [zuM (h2.2 _ (hok _ (List.mem_append_right _ (List.mem_singleton.2 rfl)))) e0]
      exact if_pos he
    · rw [if_neg he]
      refine zxG e0 _ h.at'.ok hok fun x hx=>?_
      rcases List.mem_append.1 hx with hx | hx
      · obtain ⟨r,_,_,rfl⟩:=zsI hx; exact fun q=>he q.symm
      · rw [List.mem_singleton.1 hx]; exact fun q=>he q.symm
end
end Wf

namespace Wf
open Go Go.RowKit Go.Proofs
set_option linter.unusedSimpArgs false
set_option linter.unusedVariables false
set_option maxHeartbeats 4000000
section
variable {T:Tb} {i:Nat} {s:DS}
end
section
variable {B:Ben}
end
section
variable {T0 T1:Tb} {b:Nat} {idx:List Nat} {B:Ben}
end
end Wf

namespace Wf
open Go Go.RowKit Go.Proofs
set_option linter.unusedSimpArgs false
set_option linter.unusedVariables false
set_option maxHeartbeats 4000000
section
variable {T0 T1:Tb} {b:Nat} {idx:List Nat} {B:Ben}
structure Aside (U V:Tb) (b:Nat) (idx:List Nat) (b2:Nat) (idx2:List Nat) (C:Ben):Prop where
  at':∀ B1:Ben,At (P0 U b idx B1) (P1 V idx B1) b2 idx2 C
  p0:∀ B1:Ben,P0 (P0 U b idx B1) b2 idx2 C=P0 U b idx B1
  p1:∀ B1:Ben,P1 (P1 V idx B1) idx2 C=P1 V idx B1
end
section
variable {U V:Tb} {b:Nat} {idx:List Nat} {B:Ben} {n:Nat} {K:Int}
end
end Wf

namespace Wf
open Go Go.RowKit Go.Proofs
set_option linter.unusedSimpArgs false
set_option linter.unusedVariables false
set_option maxHeartbeats 4000000
section
variable {T0 T1:Tb}
end
end Wf

namespace Wf
open Go Go.RowKit Go.Proofs
set_option linter.unusedSimpArgs false
set_option linter.unusedVariables false
set_option maxHeartbeats 4000000
theorem zxI (l:List Bool) (i:Nat) (b:Bool):(l.map D.bool).set i (.bool b)=(l.set i b).map D.bool:=by rw [List.map_set]
theorem zxJ {n:Nat} {d e:Int} (d0:0≤d) (e0:0≤e):(((List.replicate n true).set d.toNat false)[e.toNat]?).getD false=(decide (e < n) && !decide (e=d)):=by
  rw [List.getElem?_set]
  by_cases h:d.toNat=e.toNat
  · rw [if_pos h]
    have:e=d:=by omega
    simp [this]
    split<;>rfl
  · rw [if_neg h,List.getElem?_replicate]
    have h2:¬ e=d:=by omega
    by_cases h3:e < n
    · rw [if_pos (by omega)]; simp [h2,h3]
    · rw [if_neg (by omega)]; simp [h3]
theorem zzo {B:Ben} {n:Nat} (hn:B.n=n) {d e:Int} (d0:0≤d) (e0:0≤e):B.up ((List.replicate n true).set d.toNat false) e=(decide (e < n) && !decide (e=d) && !B.failed e):=by
  unfold Ben.up
  rw [zxJ d0 e0,hn]
  cases decide (e < (n:Int))<;>simp
theorem zuN {B:Ben} {live:List Bool} {g:Geo} {d:Int} (hg:0≤g.d) (h:∀ e:Int,0≤e→e < g.d→e≠d→B.up live e=true):B.lostN live g≤1:=by
  unfold Ben.lostN
  refine zxz (a:=d.toNat) fun i hi hp=>?_
  by_cases he:(i:Int)=d
  · omega
  · rw [h i (by omega) (by omega) he] at hp; cases hp
section
variable {U V:Tb} {b:Nat} {idx:List Nat} {B:Ben} {n:Nat} {K:Int}
theorem Run.rebuild_bad (h:Run U V b idx B n K) (hK:K≤900000) (tg:Tag) {live:List Bool} {d:Int} {a to:Geo} {split:Int} (hb:d < 0∨n≤d∨(live[d.toNat]?).getD false=true∨mayR a to split=false):
    zam [.h kB b 0,.sl tg (live.map D.bool),.int .i64 d,.agg [.int .i64 a.l,.int .i64 a.d,.int .i64 a.c],.agg [.int .i64 to.l,.int .i64 to.d,.int .i64 to.c],.int .i64 split] [P0 U b idx B,P1 V idx B]=some (Ans.mk (.int .i64 1) [] [P0 U b idx B,P1 V idx B]):=by
  rw [ziH h.at' (by have:=h.w; omega) tg live d a to split]
  unfold Ben.rDisk
  rw [if_pos (by rw [h.num]; exact hb)]
theorem Run.rebuild_failed (h:Run U V b idx B n K) (hK:K≤900000) (tg:Tag) {live:List Bool} {d:Int} {a to:Geo} {split:Int} (d0:0≤d) (d1:d < n) (hl:(live[d.toNat]?).getD false=false) (hm:mayR a to split=true) (hf:B.failed d=true):
    zam [.h kB b 0,.sl tg (live.map D.bool),.int .i64 d,.agg [.int .i64 a.l,.int .i64 a.d,.int .i64 a.c],.agg [.int .i64 to.l,.int .i64 to.d,.int .i64 to.c],.int .i64 split] [P0 U b idx B,P1 V idx B]=some (Ans.mk (.int .i64 5) [] [P0 U b idx B,P1 V idx B]):=by
  rw [ziH h.at' (by have:=h.w; omega) tg live d a to split]
  unfold Ben.rDisk
  rw [if_neg (by rw [h.num,hl,hm]; simp; omega),if_pos hf]
theorem zl4 {live:List Bool} {d:Int} {a to:Geo} {split:Int} (hm:mayR a to split=true) (hz:∀ e x:Int,0≤e→36≤x→x < 52→B.cur e x=zfD)
    (hl:∀ r:Nat,r < 16→B.lostN live (gAt a to split r)≤1):zy0 B live d a to split fun r=>zkh (gAt a to split r):=by
  intro r hr hd
  have hk:=zzn hm r
  have hll:=zhl.1 hk
  have:=hl r hr
  exact ⟨zyX hk,by omega,fun e e0 e1 _=>by rw [hz e _ e0 (by omega) (by omega),zxD (zm5 hm hr) e0 e1]⟩
end
theorem zAJ:zaV []=some (.bool true):=by
  have e:=zhK
  rw [e,zae (by rfl)]
  unfold zdH
  obtain ⟨U,V,idx,hnew,hB,hS⟩:=zxH [] [] (n:=3) (by omega) (by omega)
  simp only [List.length_nil] at hnew hB
  have hm:mayR ⟨5,3,1⟩ ⟨0,0,0⟩ 0=true:=by decide
  have h1:=hB.rebuild_bad (by omega) .full (live:=[true,true,true]) (d:=1) (a:=⟨5,3,1⟩) (to:=⟨0,0,0⟩) (split:=0) (.inr (.inr (.inl (by decide))))
  have hup:∀ e:Int,0≤e→e < 3→e≠1→(Ben.new 3).up [true,false,true] e=true:=by
    intro e e0 e1 e2
    have:=zzo (B:=Ben.new 3) (n:=3) hB.num (d:=1) (e:=e) (by omega) e0
    refine this.trans ?_
    rw [hS.failed]; simp; omega
  obtain ⟨B1,h2,_⟩:=hB.rebuild (by omega) .full (live:=[true,false,true]) (d:=1) (a:=⟨5,3,1⟩) (to:=⟨0,0,0⟩) (split:=0) (by omega) (by omega) (by decide) hm (hS.failed 1) (zl4 hm (fun e x e0 x0 x1=>ztI 3 e (by omega) x1) fun r hr=>by
    have:gAt ⟨5,3,1⟩ ⟨0,0,0⟩ 0 r=⟨5,3,1⟩:=by unfold gAt; rw [if_neg (by omega)]
    rw [this]
    exact zuN (d:=1) (by decide) hup)
  have hnew':za2 [.int .i64 3] [[],[]]=some (Ans.mk (.tup [.h kB 0 0,.int .i64 0]) [] [P0 U 0 idx (Ben.new 3),P1 V idx (Ben.new 3)]):=hnew
  have h1':zam [.h kB 0 0,.sl .full [.bool true,.bool true,.bool true],.int .i64 1,.agg [.int .i64 5,.int .i64 3,.int .i64 1],.agg [.int .i64 0,.int .i64 0,.int .i64 0],.int .i64 0] [P0 U 0 idx (Ben.new 3),P1 V idx (Ben.new 3)]=some (Ans.mk (.int .i64 1) [] [P0 U 0 idx (Ben.new 3),P1 V idx (Ben.new 3)]):=h1
  have h2':zam [.h kB 0 0,.sl .full [.bool true,.bool false,.bool true],.int .i64 1,.agg [.int .i64 5,.int .i64 3,.int .i64 1],.agg [.int .i64 0,.int .i64 0,.int .i64 0],.int .i64 0] [P0 U 0 idx (Ben.new 3),P1 V idx (Ben.new 3)]=some (Ans.mk (.int .i64 0) [] [P0 U 0 idx B1,P1 V idx B1]):=h2
  simp [hnew',h1',h2',zjs]
end Wf

namespace Wf
open Go Go.RowKit Go.Proofs
set_option linter.unusedSimpArgs false
set_option linter.unusedVariables false
set_option maxHeartbeats 4000000
section
variable {U V:Tb} {b:Nat} {idx:List Nat} {B:Ben} {n:Nat} {K:Int}
end
end Wf

namespace Wf
open Go Go.RowKit Go.Proofs
set_option linter.unusedVariables false
set_option maxRecDepth 100000
def zcH:Ann:={ loops:=[],ks:=[(3840,true),(7649,true)] }
noncomputable def zcf:List D→Option D:=denT Try.prog (zaB [(ID.wattleplay_Pair,(.pure [0,0] za6)),(ID.bench_New,(.st [] [0,0] [(3840,true),(7649,true)] za2)),(ID.wattleplay_Live,(.pure [1] za7)),(ID.wattlekeep_Within,(.pure [0] zaa)),(ID.rebuild_Disk,(.st [] [0] [(3840,true),(7649,true)] zam)),(ID.bench_Bench_Fail,(.st [] [0] [(3840,false),(7649,true)] zaU)),(ID.wattlelaw16_wakes,(.pure [0] zaV))]) zcH [0] ID.wattlelaw16_RebuildErrors
theorem sound_wattlelaw16_RebuildErrors:za5 Try.prog ID.wattlelaw16_RebuildErrors (.pure [0] zcf):=zpv (zaE [zi9,zjw,zjb,zcM,zgI,ziE,zhJ]) zbz ⟨Try.f8,by kernel_rfl,by kernel_rfl,by kernel_rfl⟩
noncomputable def zcg (za6:List D→Option D) (za2:List D→List Tb→Option Ans) (za7:List D→Option D) (zaa:List D→Option D) (zam:List D→List Tb→Option Ans) (zaU:List D→List Tb→Option Ans) (zaV:List D→Option D) (a0:Int) (a1:Int) (a2:Int) (a3:Int):Option D:=
  zar (za6 [D.int IntKind.i64 a0,D.int IntKind.i64 a1]) fun r1=>
  zeq r1 fun ts2=>
  zau ([Lf.any,Lf.any]) ts2 fun c3=>
  asAgg c3.fst fun cs4=>
  zau ([Lf.int IntKind.i64,Lf.int IntKind.i64,Lf.int IntKind.i64]) cs4 fun c5=>
  asAgg c3.snd.fst fun cs6=>
  zau ([Lf.int IntKind.i64,Lf.int IntKind.i64,Lf.int IntKind.i64]) cs6 fun c7=>
  zar (za2 [D.int IntKind.i64 c7.snd.fst] [[],[]]) fun r8=>
  nilK r8.outs <|
  zbF r8.tbs fun c9 q10=>
  zbF q10 fun c11 q12=>
  nilK q12 <|
  zeq r8.r fun ts13=>
  zau ([Lf.any,Lf.any]) ts13 fun c14=>
  sif (zjs c14.fst=true) <|
  asI IntKind.i64 c14.snd.fst fun i15=>
  brK (i15 != (0:Int))
    (some (D.bool false))
    (zmx c14.fst fun b16=>
    brK b16
      (some (D.bool false))
      (zar (za7 [D.int IntKind.i64 (0:Int),D.int IntKind.i64 c7.snd.fst]) fun r17=>
      zbd r17 fun l18=>
      zar (zaa [D.int IntKind.i64 a2,D.int IntKind.i64 c7.snd.fst]) fun r19=>
      asI IntKind.i64 r19 fun i20=>
      zar (zaa [D.int IntKind.i64 a3,D.int IntKind.i64 (100:Int)]) fun r21=>
      asI IntKind.i64 r21 fun i22=>
      letN (IntKind.wrap IntKind.i64 ((1:Int)+i22)) fun n23=>
      sif ((0:Int)≤i20) <|
      sif (Int.toNat i20 < List.length l18) <|
      getK l18 ((0:Nat)+Int.toNat i20) fun d24=>
      sif (D.isAgg d24=false) <|
      sif ((0:Nat)+List.length l18≤List.length (List.set l18 ((0:Nat)+Int.toNat i20) (D.bool false))) <|
      zar (zam [c14.fst,D.sl Tag.lent (cut (0:Nat) (List.length l18) (List.set l18 ((0:Nat)+Int.toNat i20) (D.bool false))),D.int IntKind.i64 (IntKind.wrap IntKind.i64 ((0:Int) - n23)),D.agg [D.int IntKind.i64 c5.fst,D.int IntKind.i64 c5.snd.fst,D.int IntKind.i64 c5.snd.snd.fst],D.agg [D.int IntKind.i64 c7.fst,D.int IntKind.i64 c7.snd.fst,D.int IntKind.i64 c7.snd.snd.fst],D.int IntKind.i64 (1:Int)] [c9,c11]) fun r25=>
      nilK r25.outs <|
      zbF r25.tbs fun c26 q27=>
      zbF q27 fun c28 q29=>
      nilK q29 <|
      asI IntKind.i64 r25.r fun i30=>
      brK (i30 != (1:Int))
        (some (D.bool false))
        (letN (IntKind.wrap IntKind.i64 (c7.snd.fst - (1:Int))) fun n31=>
        letN (IntKind.wrap IntKind.i64 (n31+n23)) fun n32=>
        sif ((0:Nat)+List.length l18≤List.length (List.set l18 ((0:Nat)+Int.toNat i20) (D.bool false))) <|
        zar (zam [c14.fst,D.sl Tag.lent (cut (0:Nat) (List.length l18) (List.set l18 ((0:Nat)+Int.toNat i20) (D.bool false))),D.int IntKind.i64 n32,D.agg [D.int IntKind.i64 c5.fst,D.int IntKind.i64 c5.snd.fst,D.int IntKind.i64 c5.snd.snd.fst],D.agg [D.int IntKind.i64 c7.fst,D.int IntKind.i64 c7.snd.fst,D.int IntKind.i64 c7.snd.snd.fst],D.int IntKind.i64 (1:Int)] [c26,c28]) fun r33=>
        nilK r33.outs <|
        zbF r33.tbs fun c34 q35=>
        zbF q35 fun c36 q37=>
        nilK q37 <|
        asI IntKind.i64 r33.r fun i38=>
        brK (i38 != (1:Int))
          (some (D.bool false))
          (letN (IntKind.wrap IntKind.i64 (i20+(1:Int))) fun n39=>
          sif (c7.snd.fst≠(0:Int)) <|
          letN (Int.tmod n39 c7.snd.fst) fun n40=>
          sif ((0:Nat)+List.length l18≤List.length (List.set l18 ((0:Nat)+Int.toNat i20) (D.bool false))) <|
          zar (zam [c14.fst,D.sl Tag.lent (cut (0:Nat) (List.length l18) (List.set l18 ((0:Nat)+Int.toNat i20) (D.bool false))),D.int IntKind.i64 n40,D.agg [D.int IntKind.i64 c5.fst,D.int IntKind.i64 c5.snd.fst,D.int IntKind.i64 c5.snd.snd.fst],D.agg [D.int IntKind.i64 c7.fst,D.int IntKind.i64 c7.snd.fst,D.int IntKind.i64 c7.snd.snd.fst],D.int IntKind.i64 (1:Int)] [c34,c36]) fun r41=>
          nilK r41.outs <|
          zbF r41.tbs fun c42 q43=>
          zbF q43 fun c44 q45=>
          nilK q45 <|
          asI IntKind.i64 r41.r fun i46=>
          brK (i46 != (1:Int))
            (some (D.bool false))
            (sif ((0:Nat)+List.length l18≤List.length (List.set l18 ((0:Nat)+Int.toNat i20) (D.bool false))) <|
            zar (zam [c14.fst,D.sl Tag.lent (cut (0:Nat) (List.length l18) (List.set l18 ((0:Nat)+Int.toNat i20) (D.bool false))),D.int IntKind.i64 i20,D.agg [D.int IntKind.i64 (0:Int),D.int IntKind.i64 (0:Int),D.int IntKind.i64 (0:Int)],D.agg [D.int IntKind.i64 c7.fst,D.int IntKind.i64 c7.snd.fst,D.int IntKind.i64 c7.snd.snd.fst],D.int IntKind.i64 (1:Int)] [c42,c44]) fun r47=>
            nilK r47.outs <|
            zbF r47.tbs fun c48 q49=>
            zbF q49 fun c50 q51=>
            nilK q51 <|
            asI IntKind.i64 r47.r fun i52=>
            brK (i52 != (1:Int))
              (some (D.bool false))
              (sif ((0:Nat)+List.length l18≤List.length (List.set l18 ((0:Nat)+Int.toNat i20) (D.bool false))) <|
              zar (zam [c14.fst,D.sl Tag.lent (cut (0:Nat) (List.length l18) (List.set l18 ((0:Nat)+Int.toNat i20) (D.bool false))),D.int IntKind.i64 i20,D.agg [D.int IntKind.i64 c5.fst,D.int IntKind.i64 c5.snd.fst,D.int IntKind.i64 c5.snd.snd.fst],D.agg [D.int IntKind.i64 (0:Int),D.int IntKind.i64 (0:Int),D.int IntKind.i64 (0:Int)],D.int IntKind.i64 (1:Int)] [c48,c50]) fun r53=>
              nilK r53.outs <|
              zbF r53.tbs fun c54 q55=>
              zbF q55 fun c56 q57=>
              nilK q57 <|
              asI IntKind.i64 r53.r fun i58=>
              brK (i58 != (1:Int))
                (some (D.bool false))
                (sif ((0:Nat)+List.length l18≤List.length (List.set l18 ((0:Nat)+Int.toNat i20) (D.bool false))) <|
                zar (zam [c14.fst,D.sl Tag.lent (cut (0:Nat) (List.length l18) (List.set l18 ((0:Nat)+Int.toNat i20) (D.bool false))),D.int IntKind.i64 i20,D.agg [D.int IntKind.i64 c5.fst,D.int IntKind.i64 c5.snd.fst,D.int IntKind.i64 c5.snd.snd.fst],D.agg [D.int IntKind.i64 c7.fst,D.int IntKind.i64 c7.snd.fst,D.int IntKind.i64 c7.snd.snd.fst],D.int IntKind.i64 (IntKind.wrap IntKind.i64 ((0:Int) - n23))] [c54,c56]) fun r59=>
                nilK r59.outs <|
                zbF r59.tbs fun c60 q61=>
                zbF q61 fun c62 q63=>
                nilK q63 <|
                asI IntKind.i64 r59.r fun i64=>
                brK (i64 != (1:Int))
                  (some (D.bool false))
                  (letN (IntKind.wrap IntKind.i64 ((16:Int)+n23)) fun n65=>
                  sif ((0:Nat)+List.length l18≤List.length (List.set l18 ((0:Nat)+Int.toNat i20) (D.bool false))) <|
                  zar (zam [c14.fst,D.sl Tag.lent (cut (0:Nat) (List.length l18) (List.set l18 ((0:Nat)+Int.toNat i20) (D.bool false))),D.int IntKind.i64 i20,D.agg [D.int IntKind.i64 c5.fst,D.int IntKind.i64 c5.snd.fst,D.int IntKind.i64 c5.snd.snd.fst],D.agg [D.int IntKind.i64 c7.fst,D.int IntKind.i64 c7.snd.fst,D.int IntKind.i64 c7.snd.snd.fst],D.int IntKind.i64 n65] [c60,c62]) fun r66=>
                  nilK r66.outs <|
                  zbF r66.tbs fun c67 q68=>
                  zbF q68 fun c69 q70=>
                  nilK q70 <|
                  asI IntKind.i64 r66.r fun i71=>
                  brK (i71 != (1:Int))
                    (some (D.bool false))
                    (sif ((0:Nat)+List.length l18≤List.length (List.set l18 ((0:Nat)+Int.toNat i20) (D.bool false))) <|
                    zar (zam [c14.fst,D.sl Tag.lent (cut (0:Nat) (List.length l18) (List.set l18 ((0:Nat)+Int.toNat i20) (D.bool false))),D.int IntKind.i64 i20,D.agg [D.int IntKind.i64 c5.fst,D.int IntKind.i64 c5.snd.fst,D.int IntKind.i64 c5.snd.snd.fst],D.agg [D.int IntKind.i64 (0:Int),D.int IntKind.i64 (0:Int),D.int IntKind.i64 (0:Int)],D.int IntKind.i64 (0:Int)] [c67,c69]) fun r72=>
                    nilK r72.outs <|
                    zbF r72.tbs fun c73 q74=>
                    zbF q74 fun c75 q76=>
                    nilK q76 <|
                    asI IntKind.i64 r72.r fun i77=>
                    brK (i77 != (0:Int))
                      (some (D.bool false))
                      (sif ((0:Nat)+List.length l18≤List.length (List.set l18 ((0:Nat)+Int.toNat i20) (D.bool false))) <|
                      zar (zam [c14.fst,D.sl Tag.lent (cut (0:Nat) (List.length l18) (List.set l18 ((0:Nat)+Int.toNat i20) (D.bool false))),D.int IntKind.i64 i20,D.agg [D.int IntKind.i64 c5.fst,D.int IntKind.i64 c5.snd.fst,D.int IntKind.i64 c5.snd.snd.fst],D.agg [D.int IntKind.i64 c7.fst,D.int IntKind.i64 c7.snd.fst,D.int IntKind.i64 c7.snd.snd.fst],D.int IntKind.i64 (16:Int)] [c73,c75]) fun r78=>
                      nilK r78.outs <|
                      zbF r78.tbs fun c79 q80=>
                      zbF q80 fun c81 q82=>
                      nilK q82 <|
                      asI IntKind.i64 r78.r fun i83=>
                      brK (i83 != (0:Int))
                        (some (D.bool false))
                        (zar (zaU [c14.fst,D.int IntKind.i64 i20] [c79,c81]) fun r84=>
                        nilK r84.outs <|
                        zbF r84.tbs fun c85 q86=>
                        nilK q86 <|
                        asI IntKind.i64 r84.r fun i87=>
                        sif ((0:Nat)+List.length l18≤List.length (List.set l18 ((0:Nat)+Int.toNat i20) (D.bool false))) <|
                        zar (zam [c14.fst,D.sl Tag.lent (cut (0:Nat) (List.length l18) (List.set l18 ((0:Nat)+Int.toNat i20) (D.bool false))),D.int IntKind.i64 i20,D.agg [D.int IntKind.i64 c5.fst,D.int IntKind.i64 c5.snd.fst,D.int IntKind.i64 c5.snd.snd.fst],D.agg [D.int IntKind.i64 c7.fst,D.int IntKind.i64 c7.snd.fst,D.int IntKind.i64 c7.snd.snd.fst],D.int IntKind.i64 (1:Int)] [c79,c85]) fun r88=>
                        nilK r88.outs <|
                        zbF r88.tbs fun c89 q90=>
                        zbF q90 fun c91 q92=>
                        nilK q92 <|
                        asI IntKind.i64 r88.r fun i93=>
                        brK (i93 == (5:Int))
                          (zar (zaV []) fun r94=>
                          asB r94 fun b95=>
                          some (D.bool b95))
                          (some (D.bool false)))))))))))))
theorem zfA (za6:List D→Option D) (za2:List D→List Tb→Option Ans) (za7:List D→Option D) (zaa:List D→Option D) (zam:List D→List Tb→Option Ans) (zaU:List D→List Tb→Option Ans) (zaV:List D→Option D) (a0:Int) (a1:Int) (a2:Int) (a3:Int):denT Try.prog (zaB [(ID.wattleplay_Pair,(.pure [0,0] za6)),(ID.bench_New,(.st [] [0,0] [(3840,true),(7649,true)] za2)),(ID.wattleplay_Live,(.pure [1] za7)),(ID.wattlekeep_Within,(.pure [0] zaa)),(ID.rebuild_Disk,(.st [] [0] [(3840,true),(7649,true)] zam)),(ID.bench_Bench_Fail,(.st [] [0] [(3840,false),(7649,true)] zaU)),(ID.wattlelaw16_wakes,(.pure [0] zaV))]) zcH [0] ID.wattlelaw16_RebuildErrors [.int .i64 a0,.int .i64 a1,.int .i64 a2,.int .i64 a3]=sif (D.nohL [.int .i64 a0,.int .i64 a1,.int .i64 a2,.int .i64 a3]=true) (zcg za6 za2 za7 zaa zam zaU zaV a0 a1 a2 a3):=by kernel_rfl
theorem zeA (a0:Int) (a1:Int) (a2:Int) (a3:Int):zcf [.int .i64 a0,.int .i64 a1,.int .i64 a2,.int .i64 a3]=sif (D.nohL [.int .i64 a0,.int .i64 a1,.int .i64 a2,.int .i64 a3]=true) (zcg za6 za2 za7 zaa zam zaU zaV a0 a1 a2 a3):=zfA za6 za2 za7 zaa zam zaU zaV a0 a1 a2 a3
end Wf

namespace Wf
open Go Go.RowKit Go.Proofs
set_option linter.unusedSimpArgs false
set_option linter.unusedVariables false
set_option maxHeartbeats 4000000
theorem rebuild_errors (a0 a1 a2 a3:Int):zcf [.int .i64 a0,.int .i64 a1,.int .i64 a2,.int .i64 a3]=some (.bool true):=by
  rw [zeA]
  rw [zae (by simp [D.nohL,D.noh])]
  unfold zcg
  obtain ⟨x,y,hpair,hcan,hx5,hy8⟩:=zxe a0 a1
  obtain ⟨k1,k2,k3,k4,k5,k6⟩:=zw8.1 hcan
  have hxd:=ok_d k1
  have hyd:=ok_d k2
  obtain ⟨U,V,idx,hnew,hB,hS⟩:=zxH [] [] (n:=y.d.toNat) (by omega) (by omega)
  simp only [List.length_nil] at hnew hB
  have hdn:((y.d.toNat:Nat):Int)=y.d:=by omega
  rw [hdn] at hnew
  have hlive:=zyY (d:=y.d.toNat) (by omega) (by omega)
  rw [hdn] at hlive
  have hd:=zq3 a2 y.d (by omega) (by omega)
  have d0:=Int.emod_nonneg a2 (show y.d≠0 by omega)
  have d1:=Int.emod_lt_of_pos a2 (show (0:Int) < y.d by omega)
  generalize a2 % y.d=d at*
  have hk:=zq3 a3 100 (by omega) (by omega)
  have hk0:=Int.emod_nonneg a3 (show (100:Int)≠0 by omega)
  have hk1:=Int.emod_lt_of_pos a3 (show (0:Int) < 100 by omega)
  generalize a3 % 100=k at*
  have hset:=zxI (List.replicate y.d.toNat true) d.toNat false
  have hln:((List.replicate y.d.toNat true).map D.bool).length=y.d.toNat:=by simp
  have hls:((List.replicate y.d.toNat true).set d.toNat false).length=y.d.toNat:=by simp
  have hlg:∀ e:Int,0≤e→(((List.replicate y.d.toNat true).set d.toNat false)[e.toNat]?).getD false=(decide (e < y.d) && !decide (e=d)):=by
    intro e e0
    rw [zxJ (by omega) e0,hdn]
  have hup:∀ (B:Ben) (K:Int),Run U V 0 idx B y.d.toNat K→(∀ e,B.failed e=false)→∀ e:Int,0≤e→e < y.d→e≠d→B.up ((List.replicate y.d.toNat true).set d.toNat false) e=true:=by
    intro B K hB hf e e0 e1 e2
    rw [zzo hB.num (by omega) e0,hdn,hf]
    simp [e1,e2]
  have hgl:((List.replicate y.d.toNat true).map D.bool)[d.toNat]? =some (.bool true):=by
    rw [List.getElem?_map,List.getElem?_replicate,if_pos (by omega)]; rfl
  generalize (List.replicate y.d.toNat true).set d.toNat false=live at*
  generalize (List.replicate y.d.toNat true).map D.bool=lv at*
  have hd':d < ((y.d.toNat:Nat):Int):=by omega
  have q0:(live[d.toNat]?).getD false=false:=by rw [hlg d d0]; simp
  have e3:IntKind.i64.wrap (d+1)=d+1:=zat (by omega) (by omega)
  have e4:(d+1).tmod y.d=(d+1) % y.d:=zuz (by omega)
  have n0:=Int.emod_nonneg (d+1) (show y.d≠0 by omega)
  have n1:=Int.emod_lt_of_pos (d+1) (show (0:Int) < y.d by omega)
  have n2:(d+1) % y.d≠d:=by
    by_cases h:d+1 < y.d
    · rw [Int.emod_eq_of_lt (by omega) h]; omega
    · have:d+1=y.d:=by omega
      rw [this,Int.emod_self]; omega
  have m1:mayR x y 1=true:=zi2.2 ⟨k1,by omega,by omega,.inr k2⟩
  have m2:mayR x ⟨0,0,0⟩ 0=true:=zi2.2 ⟨k1,by omega,by omega,.inl rfl⟩
  have m3:mayR x y 16=true:=zi2.2 ⟨k1,by omega,by omega,.inr k2⟩
  have h1:=hB.rebuild_bad (by omega) .lent (live:=live) (d:=0 - (1+k)) (a:=x) (to:=y) (split:=1) (.inl (by omega))
  have h2:=hB.rebuild_bad (by omega) .lent (live:=live) (d:=y.d - 1+(1+k)) (a:=x) (to:=y) (split:=1) (.inr (.inl (by omega)))
  have h3:=hB.rebuild_bad (by omega) .lent (live:=live) (d:=(d+1) % y.d) (a:=x) (to:=y) (split:=1) (.inr (.inr (.inl (by rw [hlg _ n0]; simp [n1,n2]))))
  have h4:=hB.rebuild_bad (by omega) .lent (live:=live) (d:=d) (a:=⟨0,0,0⟩) (to:=y) (split:=1) (.inr (.inr (.inr rfl)))
  have h5:=hB.rebuild_bad (by omega) .lent (live:=live) (d:=d) (a:=x) (to:=⟨0,0,0⟩) (split:=1) (.inr (.inr (.inr (by unfold mayR; simp; intros; decide))))
  have h6:=hB.rebuild_bad (by omega) .lent (live:=live) (d:=d) (a:=x) (to:=y) (split:=0 - (1+k)) (.inr (.inr (.inr (by
    cases h:mayR x y (0 - (1+k))
    · rfl
    · have:=zi2.1 h; omega))))
  have h7:=hB.rebuild_bad (by omega) .lent (live:=live) (d:=d) (a:=x) (to:=y) (split:=16+(1+k)) (.inr (.inr (.inr (by
    cases h:mayR x y (16+(1+k))
    · rfl
    · have:=zi2.1 h; omega))))
  have hlo:∀ (B:Ben) (K:Int),Run U V 0 idx B y.d.toNat K→(∀ e,B.failed e=false)→∀ (to:Geo) (s:Int),(to=y∨s=0)→∀ r:Nat,r < 16→B.lostN live (gAt x to s r)≤1:=by
    intro B K hB hf to s hs r hr
    have hg:gAt x to s r=x∨gAt x to s r=y:=by
      unfold gAt
      split
      · rcases hs with hs | hs
        · exact .inr hs
        · omega
      · exact .inl rfl
    refine zuN (d:=d) (by rcases hg with e | e<;>rw [e]<;>omega) fun e e0 e1 e2=>hup B K hB hf e e0 (by rcases hg with q | q<;>rw [q] at e1<;>omega) e2
  obtain ⟨B1,h8,hB1,f1,c1,_⟩:=hB.rebuild (by omega) .lent (live:=live) (d:=d) (a:=x) (to:=⟨0,0,0⟩) (split:=0) d0 hd' q0 m2 (hS.failed d) (zl4 m2 (fun e z e0 z0 z1=>ztI _ e (by omega) z1) (hlo _ _ hB hS.failed _ _ (.inr rfl)))
  have hf1:∀ e,B1.failed e=false:=fun e=>by rw [f1,hS.failed]
  obtain ⟨B2,h9,hB2,f2,c2,_⟩:=hB1.rebuild (by omega) .lent (live:=live) (d:=d) (a:=x) (to:=y) (split:=16) d0 hd' q0 m3 (hf1 d) (zl4 m3 (fun e z e0 z0 z1=>by
    rw [c1 e z e0 (by omega) z1]
    split
    · rename_i hc
      have hfi:=zm5 m2 (r:=(z - 36).toNat) (by omega)
      rw [show (((z - 36).toNat:Nat):Int)=z - 36 by omega] at hfi
      exact zxD hfi d0 hc.2.2
    · exact ztI _ e (by omega) z1) (hlo _ _ hB1 hf1 _ _ (.inl rfl)))
  obtain ⟨B3,h10,p3,hB3,f3,_,_⟩:=hB2.fail (d:=d) d0 hd'
  have h11:=hB3.rebuild_failed (by omega) .lent (live:=live) (d:=d) (a:=x) (to:=y) (split:=1) d0 hd' q0 m1 (by rw [f3 d d0 hd']; simp)
  rw [←p3] at h11
  have hww:=zAJ
  have hxD:x.D=.agg [.int .i64 x.l,.int .i64 x.d,.int .i64 x.c]:=rfl
  have hyD:y.D=.agg [.int .i64 y.l,.int .i64 y.d,.int .i64 y.c]:=rfl
  rw [hxD,hyD] at hpair
  have e1:IntKind.i64.wrap (1+k)=1+k:=zat (by omega) (by omega)
  have e2:IntKind.i64.wrap (0 - (1+k))=0 - (1+k):=zat (by omega) (by omega)
  have e5:IntKind.i64.wrap (y.d - 1)=y.d - 1:=zat (by omega) (by omega)
  have e6:IntKind.i64.wrap (y.d - 1+(1+k))=y.d - 1+(1+k):=zat (by omega) (by omega)
  have e7:IntKind.i64.wrap (16+(1+k))=16+(1+k):=zat (by omega) (by omega)
  have hcut:cut 0 lv.length (lv.set d.toNat (.bool false))=live.map D.bool:=by
    rw [hset]
    exact zl2 (by rw [List.length_map,hls,hln])
  have hsl:(lv.set d.toNat (.bool false)).length=lv.length:=by simp
  have i1:(D.bool true).isAgg=false:=rfl
  have b1:((1:Int) != 1)=false:=rfl
  have b2:((0:Int) != 0)=false:=rfl
  have b3:((5:Int) == 5)=true:=rfl
  have hd2:d.toNat < lv.length:=by omega
  have hyne:y.d≠0:=by omega
  rw [hpair,zac,znU,zmu,znT,zdK,zdK,zdK,zfP,znT,zdK,zdK,zdK,zfP]
  dsimp only
  rw [hnew,zac]
  dsimp only
  rw [zbl,zbe,zbe,zbl,znU,zmu]
  dsimp only
  rw [zae (by rfl),zbm,zh3 rfl,zz6,zaG,hlive,zac,zb9,hd,zac,zbm,hk,zac,zbm,zbk,e1,zae d0,zae hd2,Nat.zero_add,zap hgl,zae i1,hsl,zae (by omega),hcut,e2,h1,zac]
  dsimp only
  rw [zbl,zbe,zbe,zbl,zbm,zh3 rfl,zbk,e5,zbk,e6,zae (by omega),h2,zac]
  dsimp only
  rw [zbl,zbe,zbe,zbl,zbm,zh3 rfl,zbk,e3,zae hyne,zbk,e4,zae (by omega),h3,zac]
  dsimp only
  rw [zbl,zbe,zbe,zbl,zbm,zh3 rfl,zae (by omega),h4,zac]
  dsimp only
  rw [zbl,zbe,zbe,zbl,zbm,zh3 rfl,zae (by omega),h5,zac]
  dsimp only
  rw [zbl,zbe,zbe,zbl,zbm,zh3 rfl,zae (by omega),h6,zac]
  dsimp only
  rw [zbl,zbe,zbe,zbl,zbm,zh3 rfl,zbk,e7,zae (by omega),h7,zac]
  dsimp only
  rw [zbl,zbe,zbe,zbl,zbm,zh3 rfl,zae (by omega),h8,zac]
  dsimp only
  rw [zbl,zbe,zbe,zbl,zbm,zh3 rfl,zae (by omega),h9,zac]
  dsimp only
  rw [zbl,zbe,zbe,zbl,zbm,zh3 rfl,h10,zac]
  dsimp only
  rw [zbl,zbe,zbl,zbm,zae (by omega),h11,zac]
  dsimp only
  rw [zbl,zbe,zbe,zbl,zbm,b3,zbt,hww,zac,zde]
end Wf

