/- The row of WindowCrash: it answers true whatever the input. -/
import Derived.Test.YtlbdpbbpoghncaaGreatRows
import Derived.WalkKit
import Derived.ProofKit
import Derived.OpenShut
import Derived.Test.YtlbdpbbpoghncaaGreatPd
import Derived.Test.YtlbdpbbpoghncaaGreatPf
set_option linter.all false
namespace Go.Proofs.YtlbdpbbpoghncaaGreat.windowCrash
open Go.ChangeShapes Go.WideShapes Go.ChangeAt Go.RowKit
theorem own:ownKnob Tryz.prog.godebug=none:=by kernel_rfl
set_option maxRecDepth 100000 in
theorem lifted (os:Os) (started:os.Started) (H:Type) (enc:TypeId×Value→H):
  ReturnsInHanded {} Tryz.checked os 8 .any (Rows.windowCrashSpec.pre6 enc Tryz.prog Tryz.f8 Rows.windowCrashRow.domain false) (Rows.windowCrashSpec.post enc Tryz.prog Tryz.f8 false true false false):=by
 refine returnsInHanded_of_change (C:=Tryz.checked) own started (by kernel_rfl) Tryz.func8
  (ChangeSpec.witness6 (enc:=enc) (C:=Tryz.checked) false ⟨#[],#[.int .i64 0,.int .i64 0,.slice none 0 0,.int .i64 0,.int .i64 0,.slice none 0 0],[]⟩ 8 (by kernel_rfl) (by kernel_rfl) (by kernel_rfl) (by kernel_rfl)) ?_
 intro W base args ds gs before hval0 hW hcnd _;have hval:∀ (j:Nat) t v,Tryz.f8.params[j]? =some t→args[j]? =some v→Value.okWide Tryz.prog W .any base t v:=hval0;have hW':=hW;obtain ⟨p,q,hA0,hV,hq,hfz,hnd⟩:=hW
 have hA:DataW.TrodAll enc Tryz.prog W 0 (fun _=>true) true Tryz.f8.params.toList args.toList ds p:=hA0
 rw [Tryz.params8] at hA hval;obtain ⟨v0,vs0,d0,ds0,p0,q0,hargs,rfl,rfl,h0,r0⟩:=trodAll_cons hA;obtain ⟨v1,vs1,d1,ds1,p1,q1,rfl,rfl,rfl,h1,r1⟩:=trodAll_cons r0;obtain ⟨v2,vs2,d2,ds2,p2,q2,rfl,rfl,rfl,h2,r2⟩:=trodAll_cons r1;obtain ⟨v3,vs3,d3,ds3,p3,q3,rfl,rfl,rfl,h3,r3⟩:=trodAll_cons r2;obtain ⟨v4,vs4,d4,ds4,p4,q4,rfl,rfl,rfl,h4,r4⟩:=trodAll_cons r3;obtain ⟨v5,vs5,d5,ds5,p5,q5,rfl,rfl,rfl,h5,r5⟩:=trodAll_cons r4;obtain ⟨rfl,rfl,rfl⟩:=trodAll_nil r5
 obtain rfl:args=#[v0,v1,v2,v3,v4,v5]:=by cases args; simp_all
 have hgs:gs=[]:=(trodVars_none hV).1;subst hgs;obtain ⟨a0,rfl⟩:=okWide_int Tryz.underlying3 (hval 0 3 v0 rfl rfl);obtain ⟨a1,rfl⟩:=okWide_int Tryz.underlying3 (hval 1 3 v1 rfl rfl)
 obtain ⟨l2,hl2⟩:=Wf.open_intl (k:=.i64) Tryz.underlying22 Tryz.underlying3 (by kernel_rfl) (hval 2 22 v2 rfl rfl) h2
 obtain ⟨a3,rfl⟩:=okWide_int Tryz.underlying3 (hval 3 3 v3 rfl rfl);obtain ⟨a4,rfl⟩:=okWide_int Tryz.underlying3 (hval 4 3 v4 rfl rfl)
 obtain ⟨b5,hb5⟩:=Wf.open_boolsl Tryz.underlying28 Tryz.underlying4 (by kernel_rfl) (hval 5 28 v5 rfl rfl) h5
 clear hA0 hval0 hA hval
 have hc:Calls Tryz.prog 8 #[.int .i64 a0,.int .i64 a1,v2,.int .i64 a3,.int .i64 a4,v5] W fun e W'=>e=.returned (.bool true)∧Below W.heap.size W W':=
  Wf.SoundP.calls (ds:=[.int .i64 a0,.int .i64 a1,.sl .lent (Wf.intL l2),.int .i64 a3,.int .i64 a4,.sl .lent (b5.map Wf.D.bool)]) (us:=[.int .i64 a0,.int .i64 a1,v2,.int .i64 a3,.int .i64 a4,v5]) Wf.sound_wattlelaw20_WindowCrash (Wf.window_crash a0 a1 l2 a3 a4 b5 .lent .lent) (.cons (.int _ _) (.cons (.int _ _) (.cons (hl2 _) (.cons (.int _ _) (.cons (.int _ _) (.cons (hb5 _) .nil))))))
 refine hc.mono fun e W' ⟨he,hg⟩=>?_
 subst he
 exact ⟨_,rfl,Wf.row_post (tb:=4) (by kernel_rfl) (by kernel_rfl) rfl Tryz.underlying4 hW' rfl ⟨rfl,rfl,rfl⟩ hg⟩
theorem over:Rows.windowCrashRow.holds Tryz.pinned (OpenSpec.ofChange Rows.windowCrashSpec):=
 OpenClaim.holds_of_wide 8 Tryz.f8 rfl rfl rfl rfl rfl rfl rfl ⟨rfl,rfl,rfl,rfl,rfl⟩ rfl rfl rfl rfl rfl (by kernel_rfl) Tryz.func8 (by kernel_rfl)
  (of_decide_eq_true (by kernel_rfl)) (by unfold Func.isWrapper; first | (rw [if_pos (by decide+kernel)]; kernel_rfl) | (rw [if_neg (by decide+kernel)]; exact ⟨rfl,rfl⟩))
  (fun os started H enc _=>lifted os started H enc)
theorem proved:Rows.WindowCrashSaid:=
 over
end Go.Proofs.YtlbdpbbpoghncaaGreat.windowCrash

