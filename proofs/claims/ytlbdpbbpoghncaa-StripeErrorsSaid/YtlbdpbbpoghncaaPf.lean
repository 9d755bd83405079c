/- A part of the proof: lemmas that the law's row leans on. -/
import Derived.Test.YtlbdpbbpoghncaaPe
import Derived.Test.YtlbdpbbpoghncaaPd
set_option linter.all false
namespace Wf
open Go Go.RowKit Go.Proofs
set_option linter.unusedSimpArgs false
set_option linter.unusedVariables false
set_option maxHeartbeats 4000000
section
variable {B:Ben} {d a:Int}
theorem zyN (hd:B.is d=true) {e b:Int} (e0:0≤e) (hne:e≠d):(B.fail d).2.cur e b=B.cur e b:=by
  unfold Ben.fail
  rw [if_pos hd]
  unfold Ben.cur
  rw [zjG hd e0,if_neg hne]
theorem zty (hd:B.is d=true) {e:Int} (he:B.is e=true):(B.fail d).2.failed e=(decide (e=d) || B.failed e):=by
  unfold Ben.fail
  rw [if_pos hd]
  unfold Ben.failed
  rw [zta,he,zjG hd (zfl.1 he).1]
  by_cases h:e=d
  · subst h; rw [if_pos rfl,show DS.dead.failed=true from rfl]; simp
  · rw [if_neg h]; simp [h]
theorem zxt (hd:B.is d=true):(B.fail d).1=0∧(B.fail d).2.n=B.n∧(B.fail d).2.down=B.down∧(B.fail d).2.left=B.left∧(B.fail d).2.w=B.w:=by
  unfold Ben.fail
  rw [if_pos hd]
  exact ⟨rfl,by simp,rfl,rfl,rfl⟩
end
theorem zyO {n:Nat} {d:Int} (d0:0≤d):((List.replicate n true)[d.toNat]?).getD false=decide (d < n):=by
  rw [List.getElem?_replicate]
  by_cases h:d < n
  · rw [if_pos (by omega)]; simp [h]
  · rw [if_neg (by omega)]; simp [h]
theorem zuz {B:Ben} {n:Nat} (hn:B.n=n) {d:Int} (d0:0≤d):B.up (List.replicate n true) d=(decide (d < n) && !B.failed d):=by
  unfold Ben.up
  rw [zyO d0,hn]
  cases decide (d < (n:Int))<;>simp
theorem zuA (B:Ben) (live:List Bool) (g:Geo) (r:Int) (data:List (List Int)):nW (B.wActs live g r data)≤g.d.toNat:=by
  unfold Ben.wActs
  have:∀ n,nW ((List.range n).flatMap fun (d:Nat)=>if B.up live d then [Act.w d (36+r) (atR g r data d)] else [])≤n:=by
    intro n
    induction n with
    | zero=>simp [nW]
    | succ n ih=>
      rw [List.range_succ,List.flatMap_append,zwS]
      have:nW (List.flatMap (fun (d:Nat)=>if B.up live d then [Act.w d (36+r) (atR g r data d)] else []) [n])≤1:=by
        simp only [List.flatMap_cons,List.flatMap_nil,List.append_nil]
        split
        · exact Nat.le_trans (List.length_filter_le _ _) (by simp)
        · simp [nW]
      omega
  exact this _
theorem zq1 (B:Ben) (live:List Bool):nW (B.fActs live)=0:=by
  unfold Ben.fActs nW
  rw [List.length_eq_zero_iff,List.filter_eq_nil_iff]
  intro a ha
  obtain ⟨d,_,ha⟩:=List.mem_flatMap.1 ha
  split at ha
  · rw [List.mem_singleton.1 ha]; simp [Act.isW]
  · cases ha
theorem ztz {B:Ben} (hB:B.Ok) (hd:B.down=false) {live:List Bool} {g:Geo} {r:Int} {data:List (List Int)} (hr:zbU g r=true) (hR:Row g data) (hl:B.left < 0∨8≤B.left):
    B.sWrite live g r data=(0,does B (B.wActs live g r data))∧Does B (B.wActs live g r data):=by
  have hdd:=ok_d (zbA.1 hr).1
  have hn:=zuA B live g r data
  have:=zkD (B.wActs live g r data) hB hd (zut hr hR) (by omega)
  refine ⟨?_,this⟩
  unfold Ben.sWrite
  rw [zr6 hr hR,if_neg (by simp),this.run]
theorem ztA {B:Ben} (hB:B.Ok) (hd:B.down=false) (live:List Bool) (hl:B.left < 0∨0≤B.left):B.sFlush live=(0,does B (B.fActs live))∧Does B (B.fActs live):=by
  have:=zkD (B.fActs live) hB hd zyk (by rw [zq1]; omega)
  exact ⟨this.run,this⟩
theorem zxu {B:Ben} {live:List Bool} (h:Does B (B.fActs live)) {e b:Int} (e0:0≤e) (b0:0≤b) (b1:b < 52):(does B (B.fActs live)).cur e b=B.cur e b:=by
  rw [h.cur e b e0 b0 b1]
  exact zlp (zyl e b) _
theorem zxv {B:Ben} {live:List Bool} {g:Geo} {r:Int} {data:List (List Int)} (h:Does B (B.wActs live g r data)) {e b:Int} (e0:0≤e) (e1:e < g.d) (b0:0≤b) (b1:b < 52):
    (does B (B.wActs live g r data)).cur e b=if b=36+r∧B.up live e=true then atR g r data e else B.cur e b:=by
  rw [h.cur e b e0 b0 b1]
  by_cases hc:b=36+r∧B.up live e=true
  · rw [if_pos hc,hc.1]
    have:=zw5 (B:=B) (live:=live) (g:=g) (r:=r) (data:=data) (d:=e.toNat) (by omega) (by rw [show ((e.toNat:Nat):Int)=e by omega]; exact hc.2) B.cur
    rw [show ((e.toNat:Nat):Int)=e by omega] at this
    exact this
  · rw [if_neg hc]
    refine zlp (ztd ?_) _
    by_cases hb:b=36+r
    · refine .inr ?_
      cases hu:B.up live e
      · rfl
      · exact absurd ⟨hb,hu⟩ hc
    · exact .inl hb
theorem zuB (f:Nat→Int) {n:Nat}:sumK f 32 (List.replicate n zdl) n=zdl:=by
  have hs:∀ l∈List.replicate n zdl,l.length=32:=by intro l hl; rw [(List.mem_replicate.1 hl).2]; exact zkz.len
  have hl:(sumK f 32 (List.replicate n zdl) n).length=32:=ziR hs (by simp)
  refine zwD (by rw [hl,zkz.len]) fun i hi=>?_
  rw [hl] at hi
  rw [zpl hs hi (by simp),zh8]
  have:∀ k,k≤n→xsum (fun j=>mul8 (getB ((List.replicate n zdl).getD j []) i) (f j)) k=0:=by
    intro k
    induction k with
    | zero=>intro _; rfl
    | succ k ih=>
      intro hk
      have e:(List.replicate n zdl).getD k []=zdl:=by rw [List.getD_eq_getElem?_getD,List.getElem?_replicate,if_pos (by omega)]; rfl
      show xor8 (xsum _ k) (mul8 (getB ((List.replicate n zdl).getD k []) i) (f k))=0
      rw [ih (by omega),e,zh8,zky]; rfl
  exact this n (Nat.le_refl _)
def zhn (g:Geo):List (List Int):=List.replicate g.width.toNat zdl
theorem zyP {g:Geo} (hk:g.ok=true):Row g (zhn g):=⟨by have:=zcm hk; simp [zhn]; omega,fun x hx=>by rw [(List.mem_replicate.1 hx).2]; exact zkz⟩
theorem zAA {g:Geo} {r d:Int} (hr:zbU g r=true) (d0:0≤d) (d1:d < g.d):atR g r (zhn g) d=zdl:=by
  unfold atR
  split
  · unfold sumP zhn; rw [List.length_replicate]; exact zuB _
  · rename_i h1
    split
    · unfold sumQ zhn; rw [List.length_replicate]; exact zuB _
    · rename_i h2
      obtain ⟨c0,c1,_⟩:=ziU hr d0 d1 h1 h2
      unfold zhn
      rw [List.getD_eq_getElem?_getD,List.getElem?_replicate,if_pos (by omega)]; rfl
theorem zyQ {g:Geo} {r:Int} {n:Nat} (hr:zbU g r=true) (hn:n=g.d.toNat):(Ben.new n).sRead (List.replicate n true) g r=(zhn g,0):=by
  obtain ⟨hk,r0,r1⟩:=zbA.1 hr
  have hdd:=ok_d hk
  have hl:=zeu.1 hk
  have h8:n≤8:=by omega
  have hup:∀ d:Int,0≤d→d < g.d→(Ben.new n).up (List.replicate n true) d=true:=by
    intro d d0 d1
    rw [zuz (by simp [Ben.new,Ben.n]) d0,(zsv h8).failed]
    simp; omega
  rw [zyi hr (zyP hk) rfl fun d d0 d1 _=>by rw [zAz n d (by omega) (by omega),zAA hr d0 d1]]
  have:(Ben.new n).lostN (List.replicate n true) g=0:=by
    unfold Ben.lostN
    rw [List.countP_eq_zero]
    intro d hd
    have:=List.mem_range.1 hd
    rw [hup d (by omega) (by omega)]; simp
  rw [this,if_pos (by omega)]
theorem zAB:(List.replicate 32 (D.int IntKind.u8 0))=uL zdl:=zpm 32 0
theorem zAC:zaV []=some (.bool true):=by
  have e:=zhJ
  rw [e,zah (by rfl)]
  unfold zdF
  have hnew:=zBQ [] [] (n:=3) (by omega) (by omega)
  have hat:=zzi [] [] (n:=3) (by omega)
  generalize nT0 [] [] 3=U at*
  generalize nT1 [] 3=V at*
  generalize nIdx [] 3=idx at*
  let g:Geo:=⟨5,3,1⟩
  have hr:zbU g 4=true:=by decide
  have hrd:=zfE hat (by simp [Ben.new]) .full [true,true,true] g 4
  have hx:(Ben.new 3).sRead [true,true,true] g 4=(zhn g,0):=zyQ (n:=3) hr (by decide)
  rw [hx] at hrd
  have hz:zhn g=[zdl,zdl]:=rfl
  rw [hz] at hrd
  have hrd':zao [.h kB 0 0,.sl .full [.bool true,.bool true,.bool true],.agg [.int .i64 5,.int .i64 3,.int .i64 1],.int .i64 4] [P0 U 0 idx (Ben.new 3),P1 V idx (Ben.new 3)]=some (Ans.mk (.tup [.sl .own (pL (fP [zdl,zdl])),.int .i64 0]) [] []):=hrd
  have hp:pL (fP [zdl,zdl])=[.sl .fresh (uL zdl),.sl .fresh (uL zdl)]:=rfl
  rw [hp] at hrd'
  have hs:=zw6 .fresh .lent zdl zdl (by decide)
  have hnew':za3 [.int .i64 3] [[],[]]=some (Ans.mk (.tup [.h kB 0 0,.int .i64 0]) [] [P0 U 0 idx (Ben.new 3),P1 V idx (Ben.new 3)]):=hnew
  have hz32:uL zdl=List.replicate 32 (D.int IntKind.u8 0):=zAB.symm
  rw [hz32] at hs hrd'
  simp only [List.replicate] at hs hrd'
  simp [hnew',hrd',zeN,hs]
end Wf

namespace Wf
open Go Go.RowKit Go.Proofs
set_option linter.unusedSimpArgs false
set_option linter.unusedVariables false
set_option maxHeartbeats 4000000
end Wf

namespace Wf
open Go Go.RowKit
universe u
def idf {α:Sort u} (a:α):α:=a
@[simp] theorem zcH {α:Sort u} (a:α):idf a=a:=congrFun (funext fun _=>rfl) a
section
variable {R α β:Type}
@[congr high] theorem zB8 {b b':Bool} {x y:Option R} (h:idf b=b'):brK b x y=brK b' x y:=by rw [zcH] at h; rw [h]
@[congr high] theorem zAT {x x':Option α} {f:α→Option R} (h:idf x=x'):zaw x f=zaw x' f:=by rw [zcH] at h; rw [h]
@[congr high] theorem zB9 {c c':Prop} [d:Decidable c] [d':Decidable c'] {x:Option R} (h:idf c=c'):sif c x=sif c' x:=by rw [zcH] at h; subst h; congr
@[congr high] theorem zBS {n n':Int} {f:Int→Option R} (h:idf n=n'):letN n f=letN n' f:=by rw [zcH] at h; rw [h]
@[congr high] theorem zBT {l l':List α} {i i':Nat} {f:α→Option R} (h:idf l=l') (h':idf i=i'):getK l i f=getK l' i' f:=by rw [zcH] at h h'; rw [h,h']
@[congr high] theorem zCa {k:IntKind} {d d':D} {f:Int→Option R} (h:idf d=d'):asI k d f=asI k d' f:=by rw [zcH] at h; rw [h]
@[congr high] theorem zCb {d d':D} {f:Bool→Option R} (h:idf d=d'):asB d f=asB d' f:=by rw [zcH] at h; rw [h]
@[congr high] theorem zCc {d d':D} {f:ByteArray→Option R} (h:idf d=d'):asS d f=asS d' f:=by rw [zcH] at h; rw [h]
@[congr high] theorem zBU {d d':D} {f:Tag→List D→Option R} (h:idf d=d'):asSl d f=asSl d' f:=by rw [zcH] at h; rw [h]
@[congr high] theorem zAU {d d':D} {f:List D→Option R} (h:idf d=d'):za7 d f=za7 d' f:=by rw [zcH] at h; rw [h]
@[congr high] theorem zAD {d d':D} {f:List D→Option R} (h:idf d=d'):zje d f=zje d' f:=by rw [zcH] at h; rw [h]
@[congr high] theorem zAV {d d':D} {f:List D→Option R} (h:idf d=d'):asAgg d f=asAgg d' f:=by rw [zcH] at h; rw [h]
@[congr high] theorem zAW {d d':D} {f:List D→Option R} (h:idf d=d'):zde d f=zde d' f:=by rw [zcH] at h; rw [h]
@[congr high] theorem zBV {d d':D} {f:D→Option R} (h:idf d=d'):asAt d f=asAt d' f:=by rw [zcH] at h; rw [h]
@[congr high] theorem zAX {d d':List D} {f:D→Option R} (h:idf d=d'):zv7 d f=zv7 d' f:=by rw [zcH] at h; rw [h]
@[congr high] theorem zCd {k:Nat} {d d':D} {f:Nat→Option R} (h:idf d=d'):asH k d f=asH k d' f:=by rw [zcH] at h; rw [h]
@[congr high] theorem zAY {d d':D} {f:Bool→Option R} (h:idf d=d'):zmn d f=zmn d' f:=by rw [zcH] at h; rw [h]
@[congr high] theorem zAE {d d':D} {f:Bool→Option R} (h:idf d=d'):znk d f=znk d' f:=by rw [zcH] at h; rw [h]
@[congr high] theorem zAF {kk:MK} {d d':D} {f:List (Int×D)→Option R} (h:idf d=d'):zgv kk d f=zgv kk d' f:=by rw [zcH] at h; rw [h]
@[congr high] theorem zAZ {kk:MK} {d d':D} {f:List (Int×D)→Option R} (h:idf d=d'):znl kk d f=znl kk d' f:=by rw [zcH] at h; rw [h]
@[congr high] theorem zBW {T T':Tb} {f:Tb→Option R} (h:idf T=T'):letT T f=letT T' f:=by rw [zcH] at h; rw [h]
@[congr high] theorem zA0 {l l':List α} {f:α→List α→Option R} (h:idf l=l'):zcY l f=zcY l' f:=by rw [zcH] at h; rw [h]
@[congr high] theorem zBX {l l':List α} {x:Option R} (h:idf l=l'):nilK l x=nilK l' x:=by rw [zcH] at h; rw [h]
@[congr high] theorem zyR {ls:List Lf} {d d':List D} {f:LfT ls→Option R} (h:idf d=d'):zap ls d f=zap ls d' f:=by rw [zcH] at h; rw [h]
@[congr high] theorem zA1 {B:(α→Option R)→α→Option R} {a a':α} (h:idf a=a'):zcw B a=zcw B a':=by rw [zcH] at h; rw [h]
end
@[simp] theorem zCe (k i:Nat):zeN (.h k i 0)=true:=rfl
@[simp] theorem zCG (k i:Nat):D.free (.h k i 0)=true:=rfl
@[simp] theorem zzj {R:Type} (a b:D) (f:LfT [.any,.any]→Option R):zap [.any,.any] [a,b] f=f (a,b,()):=by rw [zes,zes,zh6]
@[simp] theorem zCf {β:Type} {l:List β} {n:Nat} (h:l.length=n):cut 0 n l=l:=by subst h; exact zet l
end Wf

namespace Wf
open Go Go.RowKit Go.Proofs
set_option linter.unusedSimpArgs false
set_option linter.unusedVariables false
set_option maxHeartbeats 4000000
theorem zxw {T0:Tb} {b:Nat} {idx:List Nat}:∀ (l:List Act) (B:Ben),(∀ a∈l,a.isW=false)→P0 T0 b idx (does B l)=P0 T0 b idx B
  | [],B,_=>rfl
  | a::l,B,h=>by
    show P0 T0 b idx (does (B.does1 a) l)=_
    rw [zxw l _ fun a ha=>h a (List.mem_cons_of_mem _ ha)]
    have:=h a (List.mem_cons_self ..)
    cases a with
    | w d a x=>cases this
    | f d=>rfl
theorem zAG (B:Ben) (live:List Bool):∀ a∈B.fActs live,a.isW=false:=by
  intro a ha
  unfold Ben.fActs at ha
  obtain ⟨e,he,ha⟩:=List.mem_flatMap.1 ha
  split at ha
  · rw [List.mem_singleton.1 ha]; rfl
  · cases ha
structure Run (U V:Tb) (b:Nat) (idx:List Nat) (B:Ben) (n:Nat) (K:Int):Prop where
  at':At U V b idx B
  num:B.n=n
  down:B.down=false
  left:B.left= -1
  w:B.w≤K
theorem Run.mono {U V:Tb} {b:Nat} {idx:List Nat} {B:Ben} {n:Nat} {K L:Int} (h:Run U V b idx B n K) (hk:K≤L):Run U V b idx B n L:=⟨h.at',h.num,h.down,h.left,by have:=h.w; omega⟩
section
variable {U V:Tb} {b:Nat} {idx:List Nat} {B:Ben} {n:Nat} {K:Int}
theorem Run.up (h:Run U V b idx B n K) {d:Int} (d0:0≤d):B.up (List.replicate n true) d=(decide (d < n) && !B.failed d):=zuz h.num d0
theorem Run.is (h:Run U V b idx B n K) {d:Int} (d0:0≤d) (d1:d < n):B.is d=true:=zfl.2 ⟨d0,by rw [h.num]; exact d1⟩
theorem Run.write (h:Run U V b idx B n K) (hK:K≤900000) (tg:Tag) (live:List Bool) {g:Geo} {r:Int} (hr:zbU g r=true) (tg2:Tag) {data:List (List Int)} (hR:Row g data):∃ B1,
    zaD [.h kB b 0,.sl tg (live.map D.bool),.agg [.int .i64 g.l,.int .i64 g.d,.int .i64 g.c],.int .i64 r,.sl tg2 (pL (fP data))] [P0 U b idx B,P1 V idx B]=some (Ans.mk (.int .i64 0) [] [P0 U b idx B1,P1 V idx B1])∧
    Run U V b idx B1 n (K+8)∧(∀ e,B1.failed e=B.failed e)∧B1=does B (B.wActs live g r data)∧(∀ e a:Int,0≤e→e < g.d→0≤a→a < 52→B1.cur e a=if a=36+r∧B.up live e=true then atR g r data e else B.cur e a):=by
  obtain ⟨hw1,hD1⟩:=ztz h.at'.ok h.down (live:=live) hr hR (.inl (by rw [h.left]; omega))
  have hdd:=ok_d (zbA.1 hr).1
  have hw:=h.w
  have hwd:=zcm (zbA.1 hr).1
  have hsw:=zmj h.at' (by omega) tg live g r tg2 (ps:=fP data) (by have:=hR.len; simp; omega) (by intro x hx; obtain ⟨y,hy,rfl⟩:=List.mem_map.1 hx; exact hR.sec y hy)
  rw [zuv,hw1] at hsw
  have hn:=zuA B live g r data
  have hnx:=hD1.nx.w
  refine ⟨does B (B.wActs live g r data),hsw,⟨h.at'.nx hD1.nx,hD1.nx.n.trans h.num,hD1.down.trans h.down,by rw [hD1.left,h.left]; rfl,by omega⟩,hD1.failed,rfl,fun e a e0 e1 a0 a1=>zxv hD1 e0 e1 a0 a1⟩
theorem Run.flush (h:Run U V b idx B n K) (hK:K≤900000) (tg:Tag) (live:List Bool):∃ B1,
    zbh [.h kB b 0,.sl tg (live.map D.bool)] [P0 U b idx B,P1 V idx B]=some (Ans.mk (.int .i64 0) [] [P1 V idx B1])∧P0 U b idx B=P0 U b idx B1∧
    Run U V b idx B1 n K∧(∀ e,B1.failed e=B.failed e)∧B1=does B (B.fActs live)∧(∀ e a:Int,0≤e→0≤a→a < 52→B1.cur e a=B.cur e a):=by
  obtain ⟨hw1,hD1⟩:=ztA h.at'.ok h.down live (.inl (by rw [h.left]; omega))
  have hw:=h.w
  have hsf:=zmk h.at' (by omega) tg live
  rw [hw1] at hsf
  have hnx:=hD1.nx.w
  rw [zq1] at hnx
  refine ⟨does B (B.fActs live),hsf,(zxw _ _ (zAG B live)).symm,⟨h.at'.nx hD1.nx,hD1.nx.n.trans h.num,hD1.down.trans h.down,by rw [hD1.left,h.left,zq1]; rfl,by omega⟩,hD1.failed,rfl,fun e a e0 a0 a1=>zxu hD1 e0 a0 a1⟩
theorem Run.fail (h:Run U V b idx B n K) {d:Int} (d0:0≤d) (d1:d < n):∃ B1,
    zdV [.h kB b 0,.int .i64 d] [P0 U b idx B,P1 V idx B]=some (Ans.mk (.int .i64 0) [] [P1 V idx B1])∧P0 U b idx B=P0 U b idx B1∧
    Run U V b idx B1 n K∧(∀ e:Int,0≤e→e < n→B1.failed e=(decide (e=d) || B.failed e))∧B1=(B.fail d).2∧(∀ e a:Int,0≤e→e≠d→B1.cur e a=B.cur e a):=by
  have hd:=h.is d0 d1
  obtain ⟨f1,f2,f3,f4,f5⟩:=zxt hd
  have hf:=zBI h.at' d
  rw [f1] at hf
  have hp:P0 U b idx B=P0 U b idx (B.fail d).2:=by unfold Ben.fail; rw [if_pos hd]; rfl
  have hnx:=zAe (d:=d) h.at'.ok
  refine ⟨(B.fail d).2,hf,hp,⟨h.at'.nx hnx,f2.trans h.num,f3.trans h.down,f4.trans h.left,by rw [f5]; exact h.w⟩,fun e e0 e1=>zty hd (h.is e0 e1),rfl,fun e a e0 hne=>zyN hd e0 hne⟩
end
end Wf

namespace Wf
open Go Go.RowKit Go.Proofs
set_option linter.unusedSimpArgs false
set_option linter.unusedVariables false
set_option maxHeartbeats 4000000
@[simp ↓] theorem zCH {R α:Type} (g:α→Option R) (f:(α→Option R)→Option R):jn g f=f g:=rfl
section
variable {T0 T1:Tb} {b:Nat} {idx:List Nat} {B:Ben}
end
end Wf

namespace Wf
open Go Go.RowKit Go.Proofs
set_option linter.unusedSimpArgs false
set_option linter.unusedVariables false
set_option maxHeartbeats 4000000
section
variable {B:Ben}
end
end Wf

namespace Wf
open Go Go.RowKit Go.Proofs
set_option linter.unusedSimpArgs false
set_option linter.unusedVariables false
set_option maxHeartbeats 4000000
end Wf

namespace Wf
open Go Go.RowKit Go.Proofs
set_option linter.unusedVariables false
set_option maxRecDepth 100000
def zd6:Ann:={ loops:=[(1,[.val (.cell (.int .i64)),.dead,.dead,.own 1,.dead,.dead,.dead,.dead,.dead,.dead,.dead,.val (.cell (.int .i64)),.val (.cell (.int .i64))])] }
noncomputable def zaS:List D→Option D:=denP Try.prog (zay [(ID.wattlekeep_Within,(.pure [0] zad))]) zd6 [0] ID.wattleplay_Sector
theorem zgT:za6 Try.prog ID.wattleplay_Sector (.pure [0] zaS):=zax (zaC [zd4]) zbw ⟨Try.f36,by kernel_rfl,by kernel_rfl,by kernel_rfl⟩
noncomputable def zho:Fact Try.prog:=⟨ID.wattleplay_Sector,(.pure [0] zaS),zgT⟩
noncomputable def zdr (zad:List D→Option D) (a0:Int):Option D:=
  zaw (zad [D.int IntKind.i64 a0,D.int IntKind.i64 (11:Int)]) fun r1=>
  asI IntKind.i64 r1 fun i2=>
  brK (i2 == (10:Int))
    (some (D.sl Tag.fresh [D.int IntKind.u8 (0:Int),D.int IntKind.u8 (0:Int),D.int IntKind.u8 (0:Int),D.int IntKind.u8 (0:Int),D.int IntKind.u8 (0:Int),D.int IntKind.u8 (0:Int),D.int IntKind.u8 (0:Int),D.int IntKind.u8 (0:Int),D.int IntKind.u8 (0:Int),D.int IntKind.u8 (0:Int),D.int IntKind.u8 (0:Int),D.int IntKind.u8 (0:Int),D.int IntKind.u8 (0:Int),D.int IntKind.u8 (0:Int),D.int IntKind.u8 (0:Int),D.int IntKind.u8 (0:Int),D.int IntKind.u8 (0:Int),D.int IntKind.u8 (0:Int),D.int IntKind.u8 (0:Int),D.int IntKind.u8 (0:Int),D.int IntKind.u8 (0:Int),D.int IntKind.u8 (0:Int),D.int IntKind.u8 (0:Int),D.int IntKind.u8 (0:Int),D.int IntKind.u8 (0:Int),D.int IntKind.u8 (0:Int),D.int IntKind.u8 (0:Int),D.int IntKind.u8 (0:Int),D.int IntKind.u8 (0:Int),D.int IntKind.u8 (0:Int),D.int IntKind.u8 (0:Int),D.int IntKind.u8 (0:Int)]))
    (zcw (α:=(Int×List D×Int×Int×PUnit)×PUnit) (fun again3 ((i4,(l5,(i6,(i7,_)))),_)=>
      brK (decide (i7 < i6))
        (letN (IntKind.wrap IntKind.i64 (Int.tdiv i4 (7:Int))) fun n8=>
        letN (bits BinOp.or IntKind.i64 n8 (1:Int)) fun n9=>
        letN (IntKind.wrap IntKind.i64 (i7*n9)) fun n10=>
        letN (IntKind.wrap IntKind.i64 (i4+n10)) fun n11=>
        letN (IntKind.wrap IntKind.u8 n11) fun n12=>
        sif ((0:Int)≤i7) <|
        sif (Int.toNat i7 < List.length l5) <|
        getK l5 ((0:Nat)+Int.toNat i7) fun d13=>
        sif (D.isAgg d13=false) <|
        letN (IntKind.wrap IntKind.i64 (i7+(1:Int))) fun n14=>
        sif (List.length l5=List.length (List.set l5 ((0:Nat)+Int.toNat i7) (D.int IntKind.u8 n12))) <|
        again3 (((i4,List.set l5 ((0:Nat)+Int.toNat i7) (D.int IntKind.u8 n12),i6,n14,PUnit.unit),PUnit.unit)))
        (sif ((0:Nat)+List.length l5≤List.length l5) <|
        sif (D.free (D.sl Tag.fresh (cut (0:Nat) (List.length l5) l5))=true) <|
        some (D.sl Tag.fresh (cut (0:Nat) (List.length l5) l5))))
      (((a0,[D.int IntKind.u8 (0:Int),D.int IntKind.u8 (0:Int),D.int IntKind.u8 (0:Int),D.int IntKind.u8 (0:Int),D.int IntKind.u8 (0:Int),D.int IntKind.u8 (0:Int),D.int IntKind.u8 (0:Int),D.int IntKind.u8 (0:Int),D.int IntKind.u8 (0:Int),D.int IntKind.u8 (0:Int),D.int IntKind.u8 (0:Int),D.int IntKind.u8 (0:Int),D.int IntKind.u8 (0:Int),D.int IntKind.u8 (0:Int),D.int IntKind.u8 (0:Int),D.int IntKind.u8 (0:Int),D.int IntKind.u8 (0:Int),D.int IntKind.u8 (0:Int),D.int IntKind.u8 (0:Int),D.int IntKind.u8 (0:Int),D.int IntKind.u8 (0:Int),D.int IntKind.u8 (0:Int),D.int IntKind.u8 (0:Int),D.int IntKind.u8 (0:Int),D.int IntKind.u8 (0:Int),D.int IntKind.u8 (0:Int),D.int IntKind.u8 (0:Int),D.int IntKind.u8 (0:Int),D.int IntKind.u8 (0:Int),D.int IntKind.u8 (0:Int),D.int IntKind.u8 (0:Int),D.int IntKind.u8 (0:Int)],(32:Int),(0:Int),PUnit.unit),PUnit.unit)))
theorem zjc (zad:List D→Option D) (a0:Int):denP Try.prog (zay [(ID.wattlekeep_Within,(.pure [0] zad))]) zd6 [0] ID.wattleplay_Sector [.int .i64 a0]=zdr zad a0:=by kernel_rfl
theorem zhp (a0:Int):zaS [.int .i64 a0]=zdr zad a0:=zjc zad a0
def zcR:Ann:={ loops:=[(1,[.val (.cell (.int .i64)),.dead,.dead,.ptr 3840,.dead,.val (.cell .sl),.box true [(.int .i64),(.int .i64),(.int .i64)],.val (.cell .sl),.dead,.dead,.dead,.dead,.dead,.dead,.dead,.dead,.dead,.dead,.dead,.dead,.dead,.dead,.dead,.dead,.dead,.dead,.dead,.dead,.dead,.dead,.dead,.dead,.dead,.dead,.dead,.dead,.dead,.dead,.dead,.dead,.dead,.dead,.dead,.dead,.val (.cell .sl),.val (.cell (.int .i64)),.val (.cell (.int .i64))])],ks:=[(3840,true),(7649,true)] }
noncomputable def zcf:List D→Option D:=denT Try.prog (zay [(ID.bench_New,(.st [] [0,0] [(3840,true),(7649,true)] za3)),(ID.wattlekeep_Within,(.pure [0] zad)),(ID.wattleplay_Sector,(.pure [0] zaS)),(ID.stripe_Read,(.st [] [1,0] [(3840,false),(7649,false)] zao)),(ID.stripe_Write,(.st [] [0] [(3840,true),(7649,true)] zaD)),(ID.stripe_One,(.st [] [0,0] [(3840,false),(7649,false)] zbn)),(ID.bench_counter_Writes,(.st [] [0] [(3840,false)] zaJ)),(ID.bench_counter_Limit,(.st [] [] [(3840,true)] zaP)),(ID.stripe_Flush,(.st [] [0] [(3840,false),(7649,true)] zbh)),(ID.wattlelaw14_wakes,(.pure [0] zaV))]) zcR [0] ID.wattlelaw14_StripeErrors
theorem sound_wattlelaw14_StripeErrors:za6 Try.prog ID.wattlelaw14_StripeErrors (.pure [0] zcf):=zpj (zaC [zjj,zd4,zho,zeH,zlM,zn9,zgh,zgO,zlO,zhI]) zbw ⟨Try.f5,by kernel_rfl,by kernel_rfl,by kernel_rfl⟩
noncomputable def zcg (za3:List D→List Tb→Option Ans) (zad:List D→Option D) (zaS:List D→Option D) (zao:List D→List Tb→Option Ans) (zaD:List D→List Tb→Option Ans) (zbn:List D→List Tb→Option Ans) (zaJ:List D→List Tb→Option Ans) (zaP:List D→List Tb→Option Ans) (zbh:List D→List Tb→Option Ans) (zaV:List D→Option D) (a0:Int):Option D:=
  zaw (za3 [D.int IntKind.i64 (4:Int)] [[],[]]) fun r1=>
  nilK r1.outs <|
  zcY r1.tbs fun c2 q3=>
  zcY q3 fun c4 q5=>
  nilK q5 <|
  zde r1.r fun ts6=>
  zap ([Lf.any,Lf.any]) ts6 fun c7=>
  sif (zeN c7.fst=true) <|
  asI IntKind.i64 c7.snd.fst fun i8=>
  brK (i8 != (0:Int))
    (some (D.bool false))
    (zmn c7.fst fun b9=>
    brK b9
      (some (D.bool false))
      (zaw (zad [D.int IntKind.i64 a0,D.int IntKind.i64 (1000:Int)]) fun r10=>
      asI IntKind.i64 r10 fun i11=>
      letN (IntKind.wrap IntKind.i64 ((1:Int)+i11)) fun n12=>
      zaw (zaS [D.int IntKind.i64 n12]) fun r13=>
      asSl r13 fun t14 l15=>
      sif (zeN (D.sl t14 l15)=true) <|
      letN (IntKind.wrap IntKind.i64 ((15:Int)+n12)) fun n16=>
      zcw (α:=(Int×D×(Tag×List D)×(Int×Int×Int×PUnit)×(Tag×List D)×(Tag×List D)×Int×Int×PUnit)×List (List D)×List (List D)×PUnit) (fun again17 ((i18,(x19,((t20,l21),((i22,(i23,(i24,_))),((t25,l26),((t27,l28),(i29,(i30,_)))))))),(U31,(U32,_)))=>
        brK (decide (i30 < i29))
          (sif ((0:Int)≤i30) <|
          getK l28 (Int.toNat i30) fun d33=>
          asI IntKind.i64 d33 fun i34=>
          zaw (zao [x19,D.sl t20 l21,D.agg [D.int IntKind.i64 i22,D.int IntKind.i64 i23,D.int IntKind.i64 i24],D.int IntKind.i64 i34] [U31,U32]) fun r35=>
          nilK r35.outs <|
          nilK r35.tbs <|
          zde r35.r fun ts36=>
          zap ([Lf.any,Lf.any]) ts36 fun c37=>
          za7 c37.fst fun l38=>
          asI IntKind.i64 c37.snd.fst fun i39=>
          brK (i39 != (1:Int))
            (some (D.bool false))
            (zaw (zaD [x19,D.sl t20 l21,D.agg [D.int IntKind.i64 i22,D.int IntKind.i64 i23,D.int IntKind.i64 i24],D.int IntKind.i64 i34,D.sl Tag.full [D.sl t25 l26,D.sl t25 l26,D.sl t25 l26]] [U31,U32]) fun r40=>
            nilK r40.outs <|
            zcY r40.tbs fun c41 q42=>
            zcY q42 fun c43 q44=>
            nilK q44 <|
            asI IntKind.i64 r40.r fun i45=>
            brK (i45 != (1:Int))
              (some (D.bool false))
              (letN (IntKind.wrap IntKind.i64 (i30+(1:Int))) fun n46=>
              again17 (((i18,x19,(t20,l21),(i22,i23,i24,PUnit.unit),(t25,l26),(t27,l28),i29,n46,PUnit.unit),c41,c43,PUnit.unit)))))
          (zaw (zao [x19,D.sl t20 l21,D.agg [D.int IntKind.i64 (0:Int),D.int IntKind.i64 (0:Int),D.int IntKind.i64 (0:Int)],D.int IntKind.i64 (0:Int)] [U31,U32]) fun r47=>
          nilK r47.outs <|
          nilK r47.tbs <|
          zde r47.r fun ts48=>
          zap ([Lf.any,Lf.any]) ts48 fun c49=>
          za7 c49.fst fun l50=>
          asI IntKind.i64 c49.snd.fst fun i51=>
          zaw (zbn [x19,D.sl t20 l21,D.agg [D.int IntKind.i64 i22,D.int IntKind.i64 i23,D.int IntKind.i64 i24],D.int IntKind.i64 (IntKind.wrap IntKind.i64 ((0:Int) - i18))] [U31,U32]) fun r52=>
          nilK r52.outs <|
          nilK r52.tbs <|
          zde r52.r fun ts53=>
          zap ([Lf.any,Lf.any]) ts53 fun c54=>
          asSl c54.fst fun t55 l56=>
          sif (zeN (D.sl t55 l56)=true) <|
          asI IntKind.i64 c54.snd.fst fun i57=>
          letN (IntKind.wrap IntKind.i64 ((47:Int)+i18)) fun n58=>
          zaw (zbn [x19,D.sl t20 l21,D.agg [D.int IntKind.i64 i22,D.int IntKind.i64 i23,D.int IntKind.i64 i24],D.int IntKind.i64 n58] [U31,U32]) fun r59=>
          nilK r59.outs <|
          nilK r59.tbs <|
          zde r59.r fun ts60=>
          zap ([Lf.any,Lf.any]) ts60 fun c61=>
          asSl c61.fst fun t62 l63=>
          sif (zeN (D.sl t62 l63)=true) <|
          asI IntKind.i64 c61.snd.fst fun i64=>
          brK (i51 != (1:Int))
            (some (D.bool false))
            (brK (i57 != (4:Int))
              (some (D.bool false))
              (brK (i64 != (4:Int))
                (some (D.bool false))
                (zaw (zaD [x19,D.sl t20 l21,D.agg [D.int IntKind.i64 i22,D.int IntKind.i64 i23,D.int IntKind.i64 i24],D.int IntKind.i64 (0:Int),D.sl Tag.full [D.sl t25 l26,D.sl t25 l26]] [U31,U32]) fun r65=>
                nilK r65.outs <|
                zcY r65.tbs fun c66 q67=>
                zcY q67 fun c68 q69=>
                nilK q69 <|
                asI IntKind.i64 r65.r fun i70=>
                brK (i70 != (1:Int))
                  (some (D.bool false))
                  (zaw (zaD [x19,D.sl t20 l21,D.agg [D.int IntKind.i64 i22,D.int IntKind.i64 i23,D.int IntKind.i64 i24],D.int IntKind.i64 (0:Int),D.sl Tag.full [D.sl t25 l26,D.sl t25 l26,D.sl t25 l26,D.sl t25 l26]] [c66,c68]) fun r71=>
                  nilK r71.outs <|
                  zcY r71.tbs fun c72 q73=>
                  zcY q73 fun c74 q75=>
                  nilK q75 <|
                  asI IntKind.i64 r71.r fun i76=>
                  brK (i76 != (1:Int))
                    (some (D.bool false))
                    (sif ((9:Int)≤(↑(List.length l26):Int)) <|
                    sif (zuW (1:Nat) l26=true) <|
                    zaw (zaD [x19,D.sl t20 l21,D.agg [D.int IntKind.i64 i22,D.int IntKind.i64 i23,D.int IntKind.i64 i24],D.int IntKind.i64 (0:Int),D.sl Tag.full [D.sl t25 l26,D.sl t25 l26,D.sl (zda t25 false (decide ((9:Int)=(↑(List.length l26):Int)))) (cutI (0:Int) (9:Int) l26)]] [c72,c74]) fun r77=>
                    nilK r77.outs <|
                    zcY r77.tbs fun c78 q79=>
                    zcY q79 fun c80 q81=>
                    nilK q81 <|
                    asI IntKind.i64 r77.r fun i82=>
                    brK (i82 != (1:Int))
                      (some (D.bool false))
                      (asH ((3840:Nat)) x19 fun h83=>
                      zaw (zaJ [D.h (3840:Nat) h83 (0:Nat)] [c78]) fun r84=>
                      nilK r84.outs <|
                      nilK r84.tbs <|
                      asI IntKind.i64 r84.r fun i85=>
                      brK (i85 != (0:Int))
                        (some (D.bool false))
                        (asH ((3840:Nat)) x19 fun h86=>
                        zaw (zad [D.int IntKind.i64 i18,D.int IntKind.i64 (4:Int)]) fun r87=>
                        asI IntKind.i64 r87 fun i88=>
                        zaw (zaP [D.h (3840:Nat) h86 (0:Nat),D.int IntKind.i64 i88] [c78]) fun r89=>
                        nilK r89.outs <|
                        zcY r89.tbs fun c90 q91=>
                        nilK q91 <|
                        zde r89.r fun ts92=>
                        nilK ts92 <|
                        zaw (zaD [x19,D.sl t20 l21,D.agg [D.int IntKind.i64 i22,D.int IntKind.i64 i23,D.int IntKind.i64 i24],D.int IntKind.i64 (0:Int),D.sl Tag.full [D.sl t25 l26,D.sl t25 l26,D.sl t25 l26]] [c90,c80]) fun r93=>
                        nilK r93.outs <|
                        zcY r93.tbs fun c94 q95=>
                        zcY q95 fun c96 q97=>
                        nilK q97 <|
                        asI IntKind.i64 r93.r fun i98=>
                        zaw (zao [x19,D.sl t20 l21,D.agg [D.int IntKind.i64 i22,D.int IntKind.i64 i23,D.int IntKind.i64 i24],D.int IntKind.i64 (0:Int)] [c94,c96]) fun r99=>
                        nilK r99.outs <|
                        nilK r99.tbs <|
                        zde r99.r fun ts100=>
                        zap ([Lf.any,Lf.any]) ts100 fun c101=>
                        za7 c101.fst fun l102=>
                        asI IntKind.i64 c101.snd.fst fun i103=>
                        zaw (zbn [x19,D.sl t20 l21,D.agg [D.int IntKind.i64 i22,D.int IntKind.i64 i23,D.int IntKind.i64 i24],D.int IntKind.i64 (0:Int)] [c94,c96]) fun r104=>
                        nilK r104.outs <|
                        nilK r104.tbs <|
                        zde r104.r fun ts105=>
                        zap ([Lf.any,Lf.any]) ts105 fun c106=>
                        asSl c106.fst fun t107 l108=>
                        sif (zeN (D.sl t107 l108)=true) <|
                        asI IntKind.i64 c106.snd.fst fun i109=>
                        brK (i98 == (6:Int))
                          (brK (i103 == (6:Int))
                            (brK (i109 == (6:Int))
                              (zaw (zbh [x19,D.sl t20 l21] [c94,c96]) fun r110=>
                              nilK r110.outs <|
                              zcY r110.tbs fun c111 q112=>
                              nilK q112 <|
                              asI IntKind.i64 r110.r fun i113=>
                              brK (i113 == (6:Int))
                                (zaw (zaV []) fun r114=>
                                asB r114 fun b115=>
                                some (D.bool b115))
                                (some (D.bool false)))
                              (some (D.bool false)))
                            (some (D.bool false)))
                          (some (D.bool false)))))))))))
        (((n12,c7.fst,(Tag.full,[D.bool true,D.bool true,D.bool true,D.bool true]),((5:Int),(4:Int),(2:Int),PUnit.unit),(t14,l15),(Tag.full,[D.int IntKind.i64 (IntKind.wrap IntKind.i64 ((0:Int) - n12)),D.int IntKind.i64 n16]),(↑(2:Nat):Int),(0:Int),PUnit.unit),c2,c4,PUnit.unit))))
theorem zfK (za3:List D→List Tb→Option Ans) (zad:List D→Option D) (zaS:List D→Option D) (zao:List D→List Tb→Option Ans) (zaD:List D→List Tb→Option Ans) (zbn:List D→List Tb→Option Ans) (zaJ:List D→List Tb→Option Ans) (zaP:List D→List Tb→Option Ans) (zbh:List D→List Tb→Option Ans) (zaV:List D→Option D) (a0:Int):denT Try.prog (zay [(ID.bench_New,(.st [] [0,0] [(3840,true),(7649,true)] za3)),(ID.wattlekeep_Within,(.pure [0] zad)),(ID.wattleplay_Sector,(.pure [0] zaS)),(ID.stripe_Read,(.st [] [1,0] [(3840,false),(7649,false)] zao)),(ID.stripe_Write,(.st [] [0] [(3840,true),(7649,true)] zaD)),(ID.stripe_One,(.st [] [0,0] [(3840,false),(7649,false)] zbn)),(ID.bench_counter_Writes,(.st [] [0] [(3840,false)] zaJ)),(ID.bench_counter_Limit,(.st [] [] [(3840,true)] zaP)),(ID.stripe_Flush,(.st [] [0] [(3840,false),(7649,true)] zbh)),(ID.wattlelaw14_wakes,(.pure [0] zaV))]) zcR [0] ID.wattlelaw14_StripeErrors [.int .i64 a0]=sif (D.nohL [.int .i64 a0]=true) (zcg za3 zad zaS zao zaD zbn zaJ zaP zbh zaV a0):=by kernel_rfl
theorem zeI (a0:Int):zcf [.int .i64 a0]=sif (D.nohL [.int .i64 a0]=true) (zcg za3 zad zaS zao zaD zbn zaJ zaP zbh zaV a0):=zfK za3 zad zaS zao zaD zbn zaJ zaP zbh zaV a0
end Wf

namespace Wf
open Go Go.RowKit Go.Proofs
set_option linter.unusedSimpArgs false
set_option linter.unusedVariables false
set_option maxHeartbeats 4000000
set_option maxRecDepth 10000 in
theorem zsw (n:Int):zaS [.int .i64 n]=some (.sl .fresh (uL (secN n))):=by
  have h:=ztu n
  rw [zhp]
  unfold zdr
  rw [zqV n 11 (by omega) (by omega),zak,zbO]
  unfold secN
  by_cases h:n % 11=10
  · rw [if_pos h]; simp [h]; rfl
  · rw [if_neg h]
    have hb:(n % 11 == 10)=false:=by simp [h]
    rw [hb,zaG]
    have:=zcK (R:=D) (α:=(Int×List D×Int×Int×PUnit)×PUnit)
      (fun k=>((n,uL ((List.range 32).map fun i=>if i < k then zdv n i else 0),32,(k:Int),PUnit.unit),PUnit.unit)) 32 (by omega)
      (B:=?B) (r:=some (.sl .fresh (uL ((List.range 32).map (zdv n))))) ?_ ?_
    · exact this
    · intro again k hk
      dsimp only
      have hd:decide ((k:Int) < 32)=true:=by simp; omega
      have hg:((List.range 32).map fun i=>if i < k then zdv n i else 0)[k]? =some 0:=by simp [hk]
      have hv:zdv n k=IntKind.u8.wrap (IntKind.i64.wrap (n+IntKind.i64.wrap ((k:Int)*bits .or .i64 (IntKind.i64.wrap (n.tdiv 7)) 1))):=rfl
      rw [hd,zbu,zbb,zbb,zbb,zbb,zbb,←hv,zah (by omega),zah (by simp; omega),zam (by simpa using znG hg)]
      rw [zah (by rfl),zbb,zaq (n:=(k:Int)+1) (by omega) (by omega),zah (by simp)]
      have:(uL ((List.range 32).map fun i=>if i < k then zdv n i else 0)).set (0+Int.toNat (k:Int)) (.int .u8 (zdv n k))=uL ((List.range 32).map fun i=>if i < k+1 then zdv n i else 0):=by
        rw [zy7]
        congr 1
        apply List.ext_getElem?
        intro j
        rw [List.getElem?_set]
        by_cases hj:j < 32
        · by_cases hjk:k=j
          · subst hjk; simp [hj]
          · have:(0+Int.toNat (k:Int))≠j:=by simp; exact hjk
            rw [if_neg this]
            simp [hj]
            by_cases h1:j < k
            · rw [if_pos h1,if_pos (by omega)]
            · rw [if_neg h1,if_neg (by omega)]
        · simp [hj]
          omega
      rw [this]
      rfl
    · intro again
      have e:((List.range 32).map fun i=>if i < 32 then zdv n i else 0)=(List.range 32).map (zdv n):=by
        apply List.map_congr_left; intro i hi; rw [if_pos (List.mem_range.1 hi)]
      dsimp only
      rw [e]
      have hf:=zxm ((List.range 32).map (zdv n))
      generalize uL ((List.range 32).map (zdv n))=L at*
      simp [hf]
theorem zuC {B:Ben} {live:List Bool} {g:Geo} {r:Int} (h:zbU g r=false):B.sRead live g r=([],1):=by unfold Ben.sRead; rw [if_pos h]
theorem zmF {T0 T1:Tb} {b:Nat} {idx:List Nat} {B:Ben} (h:At T0 T1 b idx B) (tg:Tag) (live:List Bool) (g:Geo) (r:Int) (tg2:Tag) {ps:List Part} (hn:ps.length < 100000) (hf:zlr g r (ps.map (·.2))=none):
    zaD [.h kB b 0,.sl tg (live.map D.bool),.agg [.int .i64 g.l,.int .i64 g.d,.int .i64 g.c],.int .i64 r,.sl tg2 (pL ps)] [P0 T0 b idx B,P1 T1 idx B]=
      some (Ans.mk (.int .i64 1) [] [P0 T0 b idx B,P1 T1 idx B]):=by
  rw [zgN,zgS,zcC]
  have hlen:(ps.map fun x=>(zbL x.1 x.2,x.2)).length=ps.length:=by simp
  have hm:(ps.map fun x=>(zbL x.1 x.2,x.2)).map (·.2)=ps.map (·.2):=by rw [List.map_map]; rfl
  rw [←hlen] at hn
  rw [←hm] at hf
  generalize (ps.map fun x=>(zbL x.1 x.2,x.2))=rs at*
  unfold zem
  have hfill:=zuy g r .lent hn
  rw [hf] at hfill
  simp [hfill,solD]
theorem zyS {U V:Tb} {idx:List Nat} (h:At U V 0 idx (Ben.new 4)) {k:Int} (k0:0≤k) (k1:k < 4) {data:List (List Int)} (hR:Row ⟨5,4,2⟩ data):
    ∃ B,((Ben.new 4).limit k).sWrite (List.replicate 4 true) ⟨5,4,2⟩ 0 data=(6,B)∧At U V 0 idx B∧B.w≤8∧B.down=true∧B.n=4∧∀ d,B.failed d=false:=by
  have hr:zbU ⟨5,4,2⟩ 0=true:=by decide
  have hS:=zsv (n:=4) (by omega)
  let B1:=(Ben.new 4).limit k
  have hl1:B1.left=k:=by show max (-1) k=k; omega
  have ok1:B1.Ok:=⟨hS.ok.w0,by rw [hl1]; omega,hS.ok.small,hS.ok.ds⟩
  have hup:∀ d:Nat,d < 4→B1.up (List.replicate 4 true) d=true:=by
    intro d hd
    rw [zuz (n:=4) rfl (by omega)]
    have:B1.failed d=false:=hS.failed d
    rw [this]; simp; omega
  have hnw:nW (B1.wActs (List.replicate 4 true) ⟨5,4,2⟩ 0 data)=4:=by
    unfold Ben.wActs
    have:(⟨5,4,2⟩:Geo).d.toNat=4:=rfl
    rw [this]
    simp only [List.range,List.range.loop,List.flatMap_cons,List.flatMap_nil,hup 0 (by omega),hup 1 (by omega),hup 2 (by omega),hup 3 (by omega),if_true]
    rfl
  obtain ⟨pre,d,a,x,post,e1,e2,hD,hok,hrun⟩:=zwU (B1.wActs (List.replicate 4 true) ⟨5,4,2⟩ 0 data) ok1 rfl (zut hr hR) (by omega) (by rw [hl1,hnw]; omega)
  refine ⟨((does B1 pre).junk (((does B1 pre).dk d).write a x).2).off,?_,?_,?_,rfl,?_,?_⟩
  · unfold Ben.sWrite
    rw [zr6 hr hR,if_neg (by simp),hrun]
  · have hx:=hD.nx
    have hat:At U V 0 idx B1:=⟨h.b,h.nd,h.lt,h.len,ok1⟩
    have h2:=hat.nx hx
    exact ⟨h2.b,h2.nd,h2.lt,h2.len,⟨h2.ok.w0,h2.ok.lf,h2.ok.small,h2.ok.ds⟩⟩
  · have:=hD.nx.w
    have hw0:B1.w=0:=rfl
    show (does B1 pre).w≤8
    omega
  · show (does B1 pre).n=4
    rw [hD.nx.n]; rfl
  · intro d
    have:(does B1 pre).failed d=B1.failed d:=hD.failed d
    show (does B1 pre).failed d=false
    rw [this]; exact hS.failed d
theorem stripe_errors (a0:Int):zcf [.int .i64 a0]=some (.bool true):=by
  rw [zeI]
  rw [zah (by simp [D.nohL,D.noh])]
  unfold zcg
  have wk:=zqV a0 1000 (by omega) (by omega)
  have t0:=Int.emod_nonneg a0 (show (1000:Int)≠0 by omega)
  have t1:=Int.emod_lt_of_pos a0 (show (0:Int) < 1000 by omega)
  generalize a0 % 1000=m at*
  obtain ⟨n,hn⟩:∃ n:Int,n=1+m:=⟨_,rfl⟩
  have wr1:IntKind.i64.wrap (1+m)=n:=by rw [hn]; exact zaq (by omega) (by omega)
  have wr2:IntKind.i64.wrap (15+n)=15+n:=zaq (by omega) (by omega)
  have wr3:IntKind.i64.wrap (0 - n)= -n:=by rw [show (0:Int) - n= -n by omega]; exact zaq (by omega) (by omega)
  have wr5:IntKind.i64.wrap (-n)= -n:=zaq (by omega) (by omega)
  have wr4:IntKind.i64.wrap (47+n)=47+n:=zaq (by omega) (by omega)
  have w4:=zqV n 4 (by omega) (by omega)
  have k0:=Int.emod_nonneg n (show (4:Int)≠0 by omega)
  have k1:=Int.emod_lt_of_pos n (show (0:Int) < 4 by omega)
  generalize n % 4=k at*
  have hsec:=zsw n
  have hxs:=zyF n
  generalize secN n=x at*
  have hnew:=zBQ [] [] (n:=4) (by omega) (by omega)
  have hat:=zzi [] [] (n:=4) (by omega)
  generalize nT0 [] [] 4=U at*
  generalize nT1 [] 4=V at*
  generalize nIdx [] 4=idx at*
  let g:Geo:=⟨5,4,2⟩
  have hgc:g.cap=48:=by decide
  have hgw:g.width=3:=by decide
  have hR:Row g [x,x,x]:=⟨by show ((3:Nat):Int)=(⟨5,4,2⟩:Geo).width; decide,fun y hy=>by simp at hy; rw [hy]; exact hxs⟩
  obtain ⟨B,eW,hB,hw,hdn,hBn,hBf⟩:=zyS hat k0 k1 hR
  generalize hB0:Ben.new 4=B0 at*
  have hw0:B0.w=0:=by rw [←hB0]; rfl
  have hnew':za3 [.int .i64 4] [[],[]]=some (Ans.mk (.tup [.h kB 0 0,.int .i64 0]) [] [P0 U 0 idx B0,P1 V idx B0]):=hnew
  have hread:∀ r:Int,(r < 0∨16≤r)→zao [.h kB 0 0,.sl .full [.bool true,.bool true,.bool true,.bool true],.agg [.int .i64 5,.int .i64 4,.int .i64 2],.int .i64 r] [P0 U 0 idx B0,P1 V idx B0]=some (Ans.mk (.tup [.sl .own [],.int .i64 1]) [] []):=by
    intro r hr
    have hf:zbU g r=false:=by
      cases hf:zbU g r
      · rfl
      · have:=zbA.1 hf; omega
    have:=zfE hat (by omega) .full [true,true,true,true] g r
    rw [zuC hf] at this
    exact this
  have hwrite:∀ (r:Int) (ps:List Part),ps.length < 100000→zlr g r (ps.map (·.2))=none→zaD [.h kB 0 0,.sl .full [.bool true,.bool true,.bool true,.bool true],.agg [.int .i64 5,.int .i64 4,.int .i64 2],.int .i64 r,.sl .full (pL ps)] [P0 U 0 idx B0,P1 V idx B0]=some (Ans.mk (.int .i64 1) [] [P0 U 0 idx B0,P1 V idx B0]):=
    fun r ps h1 h2=>zmF hat .full [true,true,true,true] g r .full h1 h2
  have hwr:∀ r:Int,(r < 0∨16≤r)→zaD [.h kB 0 0,.sl .full [.bool true,.bool true,.bool true,.bool true],.agg [.int .i64 5,.int .i64 4,.int .i64 2],.int .i64 r,.sl .full [.sl .fresh (uL x),.sl .fresh (uL x),.sl .fresh (uL x)]] [P0 U 0 idx B0,P1 V idx B0]=some (Ans.mk (.int .i64 1) [] [P0 U 0 idx B0,P1 V idx B0]):=by
    intro r hr
    have hf:zbU g r=false:=by
      cases hf:zbU g r
      · rfl
      · have:=zbA.1 hf; omega
    exact hwrite r [(.fresh,x),(.fresh,x),(.fresh,x)] (by simp) (by unfold zlr; rw [if_neg (fun q=>by rw [hf] at q; cases q.1)])
  have hw2:zaD [.h kB 0 0,.sl .full [.bool true,.bool true,.bool true,.bool true],.agg [.int .i64 5,.int .i64 4,.int .i64 2],.int .i64 0,.sl .full [.sl .fresh (uL x),.sl .fresh (uL x)]] [P0 U 0 idx B0,P1 V idx B0]=some (Ans.mk (.int .i64 1) [] [P0 U 0 idx B0,P1 V idx B0]):=
    hwrite 0 [(.fresh,x),(.fresh,x)] (by simp) (by unfold zlr; rw [if_neg (fun q=>by have:=q.2.1; rw [hgw] at this; simp at this)])
  have hw4:zaD [.h kB 0 0,.sl .full [.bool true,.bool true,.bool true,.bool true],.agg [.int .i64 5,.int .i64 4,.int .i64 2],.int .i64 0,.sl .full [.sl .fresh (uL x),.sl .fresh (uL x),.sl .fresh (uL x),.sl .fresh (uL x)]] [P0 U 0 idx B0,P1 V idx B0]=some (Ans.mk (.int .i64 1) [] [P0 U 0 idx B0,P1 V idx B0]):=
    hwrite 0 [(.fresh,x),(.fresh,x),(.fresh,x),(.fresh,x)] (by simp) (by unfold zlr; rw [if_neg (fun q=>by have:=q.2.1; rw [hgw] at this; simp at this)])
  have hct:cutI 0 9 (uL x)=uL (x.take 9):=zqp 9 x
  have hw9:zaD [.h kB 0 0,.sl .full [.bool true,.bool true,.bool true,.bool true],.agg [.int .i64 5,.int .i64 4,.int .i64 2],.int .i64 0,.sl .full [.sl .fresh (uL x),.sl .fresh (uL x),.sl .fresh (uL (x.take 9))]] [P0 U 0 idx B0,P1 V idx B0]=some (Ans.mk (.int .i64 1) [] [P0 U 0 idx B0,P1 V idx B0]):=
    hwrite 0 [(.fresh,x),(.fresh,x),(.fresh,x.take 9)] (by simp) (by unfold zlr; rw [if_neg (fun q=>by have:=q.2.2; have h3:=hxs.len; simp [h3] at this)])
  have hzero:zao [.h kB 0 0,.sl .full [.bool true,.bool true,.bool true,.bool true],.agg [.int .i64 0,.int .i64 0,.int .i64 0],.int .i64 0] [P0 U 0 idx B0,P1 V idx B0]=some (Ans.mk (.tup [.sl .own [],.int .i64 1]) [] []):=by
    have:=zfE hat (by omega) .full [true,true,true,true] ⟨0,0,0⟩ 0
    rw [zuC (by decide)] at this
    exact this
  have hone:∀ a:Int,(a < 0∨48≤a)→zbn [.h kB 0 0,.sl .full [.bool true,.bool true,.bool true,.bool true],.agg [.int .i64 5,.int .i64 4,.int .i64 2],.int .i64 a] [P0 U 0 idx B0,P1 V idx B0]=some (Ans.mk (.tup [.sl .nil [],.int .i64 4]) [] []):=by
    intro a ha
    have ho:ofP g a=(0,0,false):=by unfold ofP; rw [if_neg (by rw [hgc]; omega)]
    have:=zpE hat (by omega) .full [true,true,true,true] g a
    have hv:B0.sOne [true,true,true,true] g a=([],4):=by unfold Ben.sOne; rw [ho]; rfl
    have hT:B0.oneT [true,true,true,true] g a=.nil:=by unfold Ben.oneT; rw [ho]; rfl
    rw [hv,hT] at this
    exact this
  have hct0:=zyA hat
  rw [hw0,show kB=3840 from rfl] at hct0
  have hlim:=zAs hat k
  rw [show kB=3840 from rfl] at hlim
  simp only [List.length_nil] at hct0 hlim
  have hat1:At U V 0 idx (B0.limit k):=⟨hat.b,hat.nd,hat.lt,hat.len,⟨hat.ok.w0,by show max (-1) k≤_; omega,hat.ok.small,hat.ok.ds⟩⟩
  have hp1:P1 V idx (B0.limit k)=P1 V idx B0:=rfl
  have hcut:zaD [.h kB 0 0,.sl .full [.bool true,.bool true,.bool true,.bool true],.agg [.int .i64 5,.int .i64 4,.int .i64 2],.int .i64 0,.sl .full [.sl .fresh (uL x),.sl .fresh (uL x),.sl .fresh (uL x)]] [P0 U 0 idx (B0.limit k),P1 V idx B0]=some (Ans.mk (.int .i64 6) [] [P0 U 0 idx B,P1 V idx B]):=by
    have:=zmj hat1 (by show B0.w≤_; omega) .full [true,true,true,true] g 0 .full (ps:=[(.fresh,x),(.fresh,x),(.fresh,x)]) (by simp) (fun y hy=>by simp at hy; rw [hy]; exact hxs)
    have e:(B0.limit k).sWrite [true,true,true,true] g 0 [x,x,x]=(6,B):=eW
    have e':[((Tag.fresh,x):Part),(.fresh,x),(.fresh,x)].map (·.2)=[x,x,x]:=rfl
    rw [e',e,hp1] at this
    exact this
  have hup:∀ d:Int,0≤d→d < 4→B.up [true,true,true,true] d=true:=by
    intro d d0 d1
    have:=zuz (B:=B) (n:=4) hBn (d:=d) d0
    rw [hBf] at this
    have e:B.up [true,true,true,true] d=B.up (List.replicate 4 true) d:=rfl
    rw [e,this]; simp; omega
  have hrd:zao [.h kB 0 0,.sl .full [.bool true,.bool true,.bool true,.bool true],.agg [.int .i64 5,.int .i64 4,.int .i64 2],.int .i64 0] [P0 U 0 idx B,P1 V idx B]=some (Ans.mk (.tup [.sl .own [],.int .i64 6]) [] []):=by
    have:=zfE hB (by omega) .full [true,true,true,true] g 0
    have e:B.sRead [true,true,true,true] g 0=([],6):=by
      unfold Ben.sRead
      rw [if_neg (by decide),if_pos ⟨hdn,by
        rw [List.any_eq_true]; exact ⟨0,by decide,hup 0 (by omega) (by omega)⟩⟩]
    rw [e] at this
    exact this
  have ho0:ofP g 0=(0,0,true):=by decide
  have hon:zbn [.h kB 0 0,.sl .full [.bool true,.bool true,.bool true,.bool true],.agg [.int .i64 5,.int .i64 4,.int .i64 2],.int .i64 0] [P0 U 0 idx B,P1 V idx B]=some (Ans.mk (.tup [.sl .fresh [],.int .i64 6]) [] []):=by
    have:=zpE hB (by omega) .full [true,true,true,true] g 0
    have hv:B.sOne [true,true,true,true] g 0=([],6):=by
      unfold Ben.sOne; rw [ho0]
      dsimp only
      rw [if_neg (by simp),if_pos (hup 0 (by omega) (by omega)),zsu _ hdn (by omega) (hup 0 (by omega) (by omega))]
    have hT:B.oneT [true,true,true,true] g 0=.fresh:=by unfold Ben.oneT; rw [ho0]; dsimp only; rw [if_neg (by simp),if_pos (hup 0 (by omega) (by omega))]
    rw [hv,hT] at this
    exact this
  have hds:B.ds.length=4:=by unfold Ben.n at hBn; omega
  have hfl:zbh [.h kB 0 0,.sl .full [.bool true,.bool true,.bool true,.bool true]] [P0 U 0 idx B,P1 V idx B]=some (Ans.mk (.int .i64 6) [] [P1 V idx B]):=by
    have:=zmk hB (by omega) .full [true,true,true,true]
    have e:B.sFlush [true,true,true,true]=(6,B):=by
      unfold Ben.sFlush Ben.fActs
      rw [hds]
      simp only [List.range,List.range.loop,List.flatMap_cons,List.flatMap_nil]
      rw [if_pos (show B.up [true,true,true,true] ((0:Nat):Int)=true from hup 0 (by omega) (by omega))]
      have hm:B.may 0=6:=by
        unfold Ben.may
        rw [if_pos (zfl.2 ⟨by omega,by omega⟩),hdn]; rfl
      have ha:B.act (.f 0)=(6,B):=by
        show B.flush 0=_
        unfold Ben.flush
        rw [if_pos (by rw [hm]; decide),hm]
      show (if (B.act (.f 0)).1=0 then _ else B.act (.f 0))=_
      rw [ha]; rfl
    rw [e] at this
    exact this
  have hx9:(uL x).length=32:=by have:=hxs.len; simp [this]
  have hro:zuW 1 (uL x)=true:=by simp [zuW,uL,D.cell,D.width]
  generalize hX:uL x=X at*
  simp (disch:=first | omega | assumption | (simp; done) | fail) [-List.all_eq_true,hnew',zeN,wk,wr1,wr2,wr3,wr5,hsec]
  let st:Nat→(Int×D×(Tag×List D)×(Int×Int×Int×PUnit)×(Tag×List D)×(Tag×List D)×Int×Int×PUnit)×List (List D)×List (List D)×PUnit:=fun j=>((n,.h kB 0 0,(Tag.full,[D.bool true,D.bool true,D.bool true,D.bool true]),((5:Int),(4:Int),(2:Int),PUnit.unit),(.fresh,X),(Tag.full,[D.int IntKind.i64 (-n),D.int IntKind.i64 (15+n)]),2,(j:Int),PUnit.unit),P0 U 0 idx B0,P1 V idx B0,PUnit.unit)
  show zcw _ (st 0)=_
  refine zea st 2 (by omega) ?_ ?_
  · intro again j hj
    dsimp only [st]
    have:j=0∨j=1:=by omega
    rcases this with rfl | rfl
    · simp (disch:=first | omega | assumption | (simp; done) | fail) [-List.all_eq_true,getK,hread,hwr,zaq]
    · simp (disch:=first | omega | assumption | (simp; done) | fail) [-List.all_eq_true,getK,hread,hwr,zaq]
  · intro again
    dsimp only [st]
    simp (disch:=first | omega | assumption | (simp; done) | fail) [-List.all_eq_true,hzero,hone,wr3,wr5,wr4,zeN,hw2,hw4,hx9,hro,zda,hct,hw9,hct0,w4,hlim,hcut,hrd,hon,hfl,zAC]
end Wf

