/- The row of UpdateRows: it answers true whatever the input. -/
import Derived.Test.YtlbdpbbpoghncaaGreatRows
import Derived.WalkKit
import Derived.ProofKit
import Derived.OpenShut
import Derived.Test.YtlbdpbbpoghncaaGreatPd
import Derived.Test.YtlbdpbbpoghncaaGreatPf
set_option linter.all false
namespace Go.Proofs.YtlbdpbbpoghncaaGreat.updateRows
open Go.ChangeShapes Go.WideShapes Go.ChangeAt Go.RowKit
theorem own:ownKnob Tryz.prog.godebug=none:=by kernel_rfl
set_option maxRecDepth 100000 in
theorem lifted (os:Os) (started:os.Started) (H:Type) (enc:TypeId×Value→H):
  ReturnsInHanded {} Tryz.checked os 4 .any (Rows.updateRowsSpec.pre6 enc Tryz.prog Tryz.f4 Rows.updateRowsRow.domain false) (Rows.updateRowsSpec.post enc Tryz.prog Tryz.f4 false true false false):=by
 refine returnsInHanded_of_change (C:=Tryz.checked) own started (by kernel_rfl) Tryz.func4
  (ChangeSpec.witness6 (enc:=enc) (C:=Tryz.checked) false ⟨#[],#[.int .i64 0,.slice none 0 0,.slice none 0 0],[]⟩ 8 (by kernel_rfl) (by kernel_rfl) (by kernel_rfl) (by kernel_rfl)) ?_
 intro W base args ds gs before hval0 hW hcnd _;have hval:∀ (j:Nat) t v,Tryz.f4.params[j]? =some t→args[j]? =some v→Value.okWide Tryz.prog W .any base t v:=hval0;have hW':=hW;obtain ⟨p,q,hA0,hV,hq,hfz,hnd⟩:=hW
 have hA:DataW.TrodAll enc Tryz.prog W 0 (fun _=>true) true Tryz.f4.params.toList args.toList ds p:=hA0
 rw [Tryz.params4] at hA hval;obtain ⟨v0,vs0,d0,ds0,p0,q0,hargs,rfl,rfl,h0,r0⟩:=trodAll_cons hA;obtain ⟨v1,vs1,d1,ds1,p1,q1,rfl,rfl,rfl,h1,r1⟩:=trodAll_cons r0;obtain ⟨v2,vs2,d2,ds2,p2,q2,rfl,rfl,rfl,h2,r2⟩:=trodAll_cons r1;obtain ⟨rfl,rfl,rfl⟩:=trodAll_nil r2
 obtain rfl:args=#[v0,v1,v2]:=by cases args; simp_all
 have hgs:gs=[]:=(trodVars_none hV).1;subst hgs;obtain ⟨a0,rfl⟩:=okWide_int Tryz.underlying3 (hval 0 3 v0 rfl rfl)
 obtain ⟨l1,hl1⟩:=Wf.open_intl (k:=.i64) Tryz.underlying22 Tryz.underlying3 (by kernel_rfl) (hval 1 22 v1 rfl rfl) h1
 obtain ⟨l2,hl2⟩:=Wf.open_intl (k:=.i64) Tryz.underlying22 Tryz.underlying3 (by kernel_rfl) (hval 2 22 v2 rfl rfl) h2
 clear hA0 hval0 hA hval
 have hc:Calls Tryz.prog 4 #[.int .i64 a0,v1,v2] W fun e W'=>e=.returned (.bool true)∧Below W.heap.size W W':=
  Wf.SoundP.calls (ds:=[.int .i64 a0,.sl .lent (Wf.intL l1),.sl .lent (Wf.intL l2)]) (us:=[.int .i64 a0,v1,v2]) Wf.sound_wattlelaw15_UpdateRows (Wf.update_rows a0 l1 l2 .lent .lent) (.cons (.int _ _) (.cons (hl1 _) (.cons (hl2 _) .nil)))
 refine hc.mono fun e W' ⟨he,hg⟩=>?_
 subst he
 exact ⟨_,rfl,Wf.row_post (tb:=4) (by kernel_rfl) (by kernel_rfl) rfl Tryz.underlying4 hW' rfl ⟨rfl,rfl,rfl⟩ hg⟩
theorem over:Rows.updateRowsRow.holds Tryz.pinned (OpenSpec.ofChange Rows.updateRowsSpec):=
 OpenClaim.holds_of_wide 4 Tryz.f4 rfl rfl rfl rfl rfl rfl rfl ⟨rfl,rfl,rfl,rfl,rfl⟩ rfl rfl rfl rfl rfl (by kernel_rfl) Tryz.func4 (by kernel_rfl)
  (of_decide_eq_true (by kernel_rfl)) (by unfold Func.isWrapper; first | (rw [if_pos (by decide+kernel)]; kernel_rfl) | (rw [if_neg (by decide+kernel)]; exact ⟨rfl,rfl⟩))
  (fun os started H enc _=>lifted os started H enc)
theorem proved:Rows.UpdateRowsSaid:=
 over
end Go.Proofs.YtlbdpbbpoghncaaGreat.updateRows

