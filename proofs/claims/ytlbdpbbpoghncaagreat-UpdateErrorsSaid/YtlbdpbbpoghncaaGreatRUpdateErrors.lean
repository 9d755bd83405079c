/- The row of UpdateErrors: it answers true whatever the input. -/
import Derived.Test.YtlbdpbbpoghncaaGreatRows
import Derived.WalkKit
import Derived.ProofKit
import Derived.OpenShut
import Derived.Test.YtlbdpbbpoghncaaGreatPd
import Derived.Test.YtlbdpbbpoghncaaGreatPf
set_option linter.all false
namespace Go.Proofs.YtlbdpbbpoghncaaGreat.updateErrors
open Go.ChangeShapes Go.WideShapes Go.ChangeAt Go.RowKit
theorem own:ownKnob Tryz.prog.godebug=none:=by kernel_rfl
set_option maxRecDepth 100000 in
theorem lifted (os:Os) (started:os.Started) (H:Type) (enc:TypeId×Value→H):
  ReturnsInHanded {} Tryz.checked os 3 .any (Rows.updateErrorsSpec.pre6 enc Tryz.prog Tryz.f3 Rows.updateErrorsRow.domain false) (Rows.updateErrorsSpec.post enc Tryz.prog Tryz.f3 false true false false):=by
 refine returnsInHanded_of_change (C:=Tryz.checked) own started (by kernel_rfl) Tryz.func3
  (ChangeSpec.witness6 (enc:=enc) (C:=Tryz.checked) false ⟨#[],#[.int .i64 0,.int .i64 0,.int .i64 0,.slice none 0 0,.int .i64 0,.int .i64 0],[]⟩ 8 (by kernel_rfl) (by kernel_rfl) (by kernel_rfl) (by kernel_rfl)) ?_
 intro W base args ds gs before hval0 hW hcnd _;have hval:∀ (j:Nat) t v,Tryz.f3.params[j]? =some t→args[j]? =some v→Value.okWide Tryz.prog W .any base t v:=hval0;have hW':=hW;obtain ⟨p,q,hA0,hV,hq,hfz,hnd⟩:=hW
 have hA:DataW.TrodAll enc Tryz.prog W 0 (fun _=>true) true Tryz.f3.params.toList args.toList ds p:=hA0
 rw [Tryz.params3] at hA hval;obtain ⟨v0,vs0,d0,ds0,p0,q0,hargs,rfl,rfl,h0,r0⟩:=trodAll_cons hA;obtain ⟨v1,vs1,d1,ds1,p1,q1,rfl,rfl,rfl,h1,r1⟩:=trodAll_cons r0;obtain ⟨v2,vs2,d2,ds2,p2,q2,rfl,rfl,rfl,h2,r2⟩:=trodAll_cons r1;obtain ⟨v3,vs3,d3,ds3,p3,q3,rfl,rfl,rfl,h3,r3⟩:=trodAll_cons r2;obtain ⟨v4,vs4,d4,ds4,p4,q4,rfl,rfl,rfl,h4,r4⟩:=trodAll_cons r3;obtain ⟨v5,vs5,d5,ds5,p5,q5,rfl,rfl,rfl,h5,r5⟩:=trodAll_cons r4;obtain ⟨rfl,rfl,rfl⟩:=trodAll_nil r5
 obtain rfl:args=#[v0,v1,v2,v3,v4,v5]:=by cases args; simp_all
 have hgs:gs=[]:=(trodVars_none hV).1;subst hgs;obtain ⟨a0,rfl⟩:=okWide_int Tryz.underlying3 (hval 0 3 v0 rfl rfl);obtain ⟨a1,rfl⟩:=okWide_int Tryz.underlying3 (hval 1 3 v1 rfl rfl);obtain ⟨a2,rfl⟩:=okWide_int Tryz.underlying3 (hval 2 3 v2 rfl rfl)
 obtain ⟨l3,hl3⟩:=Wf.open_intl (k:=.i64) Tryz.underlying22 Tryz.underlying3 (by kernel_rfl) (hval 3 22 v3 rfl rfl) h3
 obtain ⟨a4,rfl⟩:=okWide_int Tryz.underlying3 (hval 4 3 v4 rfl rfl);obtain ⟨a5,rfl⟩:=okWide_int Tryz.underlying3 (hval 5 3 v5 rfl rfl);clear hA0 hval0 hA hval
 have hc:Calls Tryz.prog 3 #[.int .i64 a0,.int .i64 a1,.int .i64 a2,v3,.int .i64 a4,.int .i64 a5] W fun e W'=>e=.returned (.bool true)∧Below W.heap.size W W':=
  Wf.SoundP.calls (ds:=[.int .i64 a0,.int .i64 a1,.int .i64 a2,.sl .lent (Wf.intL l3),.int .i64 a4,.int .i64 a5]) (us:=[.int .i64 a0,.int .i64 a1,.int .i64 a2,v3,.int .i64 a4,.int .i64 a5]) (show Wf.Sound Tryz.prog 3 (.pure [0] Wf.F_wattlelaw15_UpdateErrors) from Wf.fact_wattlelaw15_UpdateErrors.ok) (Wf.update_errors a0 a1 a2 l3 a4 a5 .lent) (.cons (.int _ _) (.cons (.int _ _) (.cons (.int _ _) (.cons (hl3 _) (.cons (.int _ _) (.cons (.int _ _) .nil))))))
 refine hc.mono fun e W' ⟨he,hg⟩=>?_
 subst he
 exact ⟨_,rfl,Wf.row_post (tb:=4) (by kernel_rfl) (by kernel_rfl) rfl Tryz.underlying4 hW' rfl ⟨rfl,rfl,rfl⟩ hg⟩
theorem over:Rows.updateErrorsRow.holds Tryz.pinned (OpenSpec.ofChange Rows.updateErrorsSpec):=
 OpenClaim.holds_of_wide 3 Tryz.f3 rfl rfl rfl rfl rfl rfl rfl ⟨rfl,rfl,rfl,rfl,rfl⟩ rfl rfl rfl rfl rfl (by kernel_rfl) Tryz.func3 (by kernel_rfl)
  (of_decide_eq_true (by kernel_rfl)) (by unfold Func.isWrapper; first | (rw [if_pos (by decide+kernel)]; kernel_rfl) | (rw [if_neg (by decide+kernel)]; exact ⟨rfl,rfl⟩))
  (fun os started H enc _=>lifted os started H enc)
theorem proved:Rows.UpdateErrorsSaid:=
 over
end Go.Proofs.YtlbdpbbpoghncaaGreat.updateErrors

