/- The row of RebuildQuiet: it answers true whatever the input. -/
import Derived.Test.YtlbdpbbpoghncaaRows
import Derived.WalkKit
import Derived.ProofKit
import Derived.OpenShut
import Derived.Test.YtlbdpbbpoghncaaPd
import Derived.Test.YtlbdpbbpoghncaaPf
set_option linter.all false
namespace Go.Proofs.Ytlbdpbbpoghncaa.rebuildQuiet
open Go.ChangeShapes Go.WideShapes Go.ChangeAt Go.RowKit
theorem own:ownKnob Try.prog.godebug=none:=by kernel_rfl
set_option maxRecDepth 100000 in
theorem lifted (os:Os) (started:os.Started) (H:Type) (enc:TypeId×Value→H):
  ReturnsInHanded {} Try.checked os 11 .any (Rows.rebuildQuietSpec.pre6 enc Try.prog Try.f11 Rows.rebuildQuietRow.domain false) (Rows.rebuildQuietSpec.post enc Try.prog Try.f11 false true false false):=by
 refine returnsInHanded_of_change (C:=Try.checked) own started (by kernel_rfl) Try.func11
  (ChangeSpec.witness6 (enc:=enc) (C:=Try.checked) false ⟨#[],#[.int .i64 0,.int .i64 0,.int .i64 0,.slice none 0 0,.int .i64 0,.int .i64 0,.slice none 0 0],[]⟩ 8 (by kernel_rfl) (by kernel_rfl) (by kernel_rfl) (by kernel_rfl)) ?_
 intro W base args ds gs before hval0 hW hcnd _;have hval:∀ (j:Nat) t v,Try.f11.params[j]? =some t→args[j]? =some v→Value.okWide Try.prog W .any base t v:=hval0;have hW':=hW;obtain ⟨p,q,hA0,hV,hq,hfz,hnd⟩:=hW
 have hA:DataW.TrodAll enc Try.prog W 0 (fun _=>true) true Try.f11.params.toList args.toList ds p:=hA0
 rw [Try.params11] at hA hval;obtain ⟨v0,vs0,d0,ds0,p0,q0,hargs,rfl,rfl,h0,r0⟩:=trodAll_cons hA;obtain ⟨v1,vs1,d1,ds1,p1,q1,rfl,rfl,rfl,h1,r1⟩:=trodAll_cons r0;obtain ⟨v2,vs2,d2,ds2,p2,q2,rfl,rfl,rfl,h2,r2⟩:=trodAll_cons r1;obtain ⟨v3,vs3,d3,ds3,p3,q3,rfl,rfl,rfl,h3,r3⟩:=trodAll_cons r2;obtain ⟨v4,vs4,d4,ds4,p4,q4,rfl,rfl,rfl,h4,r4⟩:=trodAll_cons r3;obtain ⟨v5,vs5,d5,ds5,p5,q5,rfl,rfl,rfl,h5,r5⟩:=trodAll_cons r4;obtain ⟨v6,vs6,d6,ds6,p6,q6,rfl,rfl,rfl,h6,r6⟩:=trodAll_cons r5;obtain ⟨rfl,rfl,rfl⟩:=trodAll_nil r6
 obtain rfl:args=#[v0,v1,v2,v3,v4,v5,v6]:=by cases args; simp_all
 have hgs:gs=[]:=(trodVars_none hV).1;subst hgs;obtain ⟨a0,rfl⟩:=okWide_int Try.underlying3 (hval 0 3 v0 rfl rfl);obtain ⟨a1,rfl⟩:=okWide_int Try.underlying3 (hval 1 3 v1 rfl rfl);obtain ⟨a2,rfl⟩:=okWide_int Try.underlying3 (hval 2 3 v2 rfl rfl)
 obtain ⟨l3,hl3⟩:=Wf.open_intl (k:=.i64) Try.underlying22 Try.underlying3 (by kernel_rfl) (hval 3 22 v3 rfl rfl) h3
 obtain ⟨a4,rfl⟩:=okWide_int Try.underlying3 (hval 4 3 v4 rfl rfl);obtain ⟨a5,rfl⟩:=okWide_int Try.underlying3 (hval 5 3 v5 rfl rfl)
 obtain ⟨b6,hb6⟩:=Wf.open_boolsl Try.underlying29 Try.underlying4 (by kernel_rfl) (hval 6 29 v6 rfl rfl) h6
 clear hA0 hval0 hA hval
 have hc:Calls Try.prog 11 #[.int .i64 a0,.int .i64 a1,.int .i64 a2,v3,.int .i64 a4,.int .i64 a5,v6] W fun e W'=>e=.returned (.bool true)∧Below W.heap.size W W':=
  Wf.SoundP.calls (ds:=[.int .i64 a0,.int .i64 a1,.int .i64 a2,.sl .lent (Wf.intL l3),.int .i64 a4,.int .i64 a5,.sl .lent (b6.map Wf.D.bool)]) (us:=[.int .i64 a0,.int .i64 a1,.int .i64 a2,v3,.int .i64 a4,.int .i64 a5,v6]) Wf.sound_wattlelaw16_RebuildQuiet (Wf.rebuild_quiet a0 a1 a2 l3 a4 a5 b6 .lent .lent) (.cons (.int _ _) (.cons (.int _ _) (.cons (.int _ _) (.cons (hl3 _) (.cons (.int _ _) (.cons (.int _ _) (.cons (hb6 _) .nil)))))))
 refine hc.mono fun e W' ⟨he,hg⟩=>?_
 subst he
 exact ⟨_,rfl,Wf.row_post (tb:=4) (by kernel_rfl) (by kernel_rfl) rfl Try.underlying4 hW' rfl ⟨rfl,rfl,rfl⟩ hg⟩
theorem over:Rows.rebuildQuietRow.holds Try.pinned (OpenSpec.ofChange Rows.rebuildQuietSpec):=
 OpenClaim.holds_of_wide 11 Try.f11 rfl rfl rfl rfl rfl rfl rfl ⟨rfl,rfl,rfl,rfl,rfl⟩ rfl rfl rfl rfl rfl (by kernel_rfl) Try.func11 (by kernel_rfl)
  (of_decide_eq_true (by kernel_rfl)) (by unfold Func.isWrapper; first | (rw [if_pos (by decide+kernel)]; kernel_rfl) | (rw [if_neg (by decide+kernel)]; exact ⟨rfl,rfl⟩))
  (fun os started H enc _=>lifted os started H enc)
theorem proved:Rows.RebuildQuietSaid:=
 over
end Go.Proofs.Ytlbdpbbpoghncaa.rebuildQuiet

