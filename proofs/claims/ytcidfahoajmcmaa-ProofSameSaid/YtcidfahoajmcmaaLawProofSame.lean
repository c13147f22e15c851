/- PROVED HERE: the Go function paymasterlaw16.ProofSame returns true for every input that the given statement speaks of, and each argument reads behind the call as it read before. Conditions: none beyond the given statement's own. -/
-- Written by a program of this workplace (wip/tool/rowgen.py). Lean checks it.
import Derived.Test.YtcidfahoajmcmaaRows
import Derived.Test.YtcidfahoajmcmaaRd
import Derived.Test.YtcidfahoajmcmaaHLawSame
import Derived.Test.YtcidfahoajmcmaaPureProofSame
import Derived.WalkKit
import Derived.ProofKit
import Derived.OpenShut
import Derived.ShutString
import Derived.ChangeOld
import Derived.Below
import Derived.SizedLaws
namespace Go.Proofs.Ytcidfahoajmcmaa.proofSame
open Go.Proofs.Ytcidfahoajmcmaa.P Go.ChangeShapes Go.WideShapes Go.ChangeAt Go.RowKit
open Go.ChangeMaps (open_string shut_string)
open Go.Proofs.YtcidfahoajmcmaaW.PrintWords Go.Proofs.YtcidfahoajmcmaaW.PrintLast Go.Proofs.YtcidfahoajmcmaaW.PrintMore
set_option linter.unusedVariables false
set_option linter.unusedSimpArgs false
theorem own : ownKnob Try.prog.godebug = none := by kernel_rfl
theorem laidOut : laidOutB Try.prog = true := by kernel_rfl
set_option maxRecDepth 100000 in
theorem lifted (os : Os) (started : os.Started) (H : Type) (enc : TypeId × Value → H) :
    ReturnsInHanded {} Try.checked os 4 .any (Rows.proofSameSpec.pre6 enc Try.prog Try.f4 Rows.proofSameRow.domain false) (Rows.proofSameSpec.post enc Try.prog Try.f4 false true false false) := by
  refine returnsInHanded_of_change_sized (C := Try.checked) own started (by kernel_rfl) Try.func4
    (ChangeSpec.witness6 (enc := enc) (C := Try.checked) false ⟨#[], #[.agg #[.bool false, .string ByteArray.empty, .string ByteArray.empty, .int .u64 0, .int .u64 0, .int .u64 0, .slice none 0 0], .agg #[.bool false, .string ByteArray.empty, .string ByteArray.empty, .int .u64 0, .int .u64 0, .int .u64 0, .slice none 0 0], .int .u64 0], []⟩ 8 (by kernel_rfl) (by kernel_rfl) (by kernel_rfl) (by kernel_rfl)) ?_
  intro W base args ds gs before hval0 hW hcnd hsz0 _
  have hval : ∀ (j : Nat) t v, Try.f4.params[j]? = some t → args[j]? = some v → Value.okWide Try.prog W .any base t v := hval0
  have hW' := hW
  obtain ⟨p, q, hA0, hV, rfl, hfz, hnd⟩ := hW
  have hA : DataW.TrodAll enc Try.prog W 0 (fun _ => true) true Try.f4.params.toList args.toList ds p := hA0
  rw [Try.params4] at hA hval
  obtain ⟨v0, vs0, d0, ds0, p0, q0, hargs, rfl, rfl, h0, r0⟩ := trodAll_cons hA
  obtain ⟨v1, vs1, d1, ds1, p1, q1, rfl, rfl, rfl, h1, r1⟩ := trodAll_cons r0
  obtain ⟨v2, vs2, d2, ds2, p2, q2, rfl, rfl, rfl, h2, r2⟩ := trodAll_cons r1
  obtain ⟨rfl, rfl, rfl⟩ := trodAll_nil r2
  obtain rfl : args = #[v0, v1, v2] := by cases args; simp_all
  obtain ⟨rfl, rfl⟩ := trodVars_none hV
  have hz0 : Sized Try.prog 31 d0 := Sized.each hsz0 (j := 0) rfl rfl
  have hz1 : Sized Try.prog 31 d1 := Sized.each hsz0 (j := 1) rfl rfl
  have hz2 : Sized Try.prog 22 d2 := Sized.each hsz0 (j := 2) rfl rfl
  have k0 := h0
  have lt0 : ∀ x ∈ p0, x.block < W.heap.size := by obtain ⟨m, hm⟩ := k0; exact DataW.trod_lt m _ _ _ hm
  obtain ⟨y0, cs0, rfl, hk0, w0⟩ := rdEntry.agg Try.underlying31 (hval 0 31 v0 rfl rfl) h0 hz0
  obtain ⟨cl0, rfl⟩ : ∃ l : List Value, cs0 = l.toArray := ⟨cs0.toList, by simp⟩
  simp only [List.toList_toArray] at hk0
  obtain ⟨A0_6, c0_6, rfl, l0_6, g0_6⟩ := kEntry_open hk0
  have k1 := h1
  have lt1 : ∀ x ∈ p1, x.block < W.heap.size := by obtain ⟨m, hm⟩ := k1; exact DataW.trod_lt m _ _ _ hm
  obtain ⟨y1, cs1, rfl, hk1, w1⟩ := rdEntry.agg Try.underlying31 (hval 1 31 v1 rfl rfl) h1 hz1
  obtain ⟨cl1, rfl⟩ : ∃ l : List Value, cs1 = l.toArray := ⟨cs1.toList, by simp⟩
  simp only [List.toList_toArray] at hk1
  obtain ⟨A1_6, c1_6, rfl, l1_6, g1_6⟩ := kEntry_open hk1
  have k2 := h2
  have lt2 : ∀ x ∈ p2, x.block < W.heap.size := by obtain ⟨m, hm⟩ := k2; exact DataW.trod_lt m _ _ _ hm
  obtain ⟨y2, rfl, rfl, rfl, w2⟩ := open_int Try.underlying22 (hval 2 22 v2 rfl rfl) h2
  clear hA0 hval0 hsz0
  have h := pure_ProofSame y0 y1 y2 w0 w1 w2
  refine (paymasterlaw16_ProofSame.calls y0.f0.f0 y0.f0.f1 y0.f0.f2 y0.f0.f3.f0 y0.f0.f3.f1 y0.f1.f0 _ _ y0.f1.f1 y1.f0.f0 y1.f0.f1 y1.f0.f2 y1.f0.f3.f0 y1.f0.f3.f1 y1.f1.f0 _ _ y1.f1.f1 y2 true W g0_6 l0_6 g1_6 l1_6 h).mono fun e W' ⟨he, bel0⟩ => ?_
  have bel := bel0
  subst he
  exact ⟨_, rfl, _, _, _, [], _, [], hW', trodAll_mk1 (shut_bool Try.underlying4 _), (trodAll_cons_mk (Below.trod laidOut (by kernel_rfl) (of_decide_eq_true (by kernel_rfl)) k0 bel lt0) (trodAll_cons_mk (Below.trod laidOut (by kernel_rfl) (of_decide_eq_true (by kernel_rfl)) k1 bel lt1) (trodAll_cons_mk (Below.trod laidOut (by kernel_rfl) (of_decide_eq_true (by kernel_rfl)) k2 bel lt2) trodAll_mk0))), rfl, bel.frame _, fun h => by cases h⟩
theorem over : Rows.proofSameRow.holds Try.pinned (OpenSpec.ofChange Rows.proofSameSpec) :=
  OpenClaim.holds_of_wide 4 Try.f4 rfl rfl rfl rfl rfl rfl rfl ⟨rfl, rfl, rfl, rfl, rfl⟩ rfl rfl rfl rfl rfl (by kernel_rfl) Try.func4 (by kernel_rfl)
    (of_decide_eq_true (by kernel_rfl)) (by unfold Func.isWrapper; first | (rw [if_pos (by decide +kernel)]; kernel_rfl) | (rw [if_neg (by decide +kernel)]; exact ⟨rfl, rfl⟩))
    (fun os started H enc _ => lifted os started H enc)
theorem proved : Rows.ProofSameSaid := over
#print axioms proved
end Go.Proofs.Ytcidfahoajmcmaa.proofSame
namespace Go.Proofs.Ytcidfahoajmcmaa
/-- The row, under a short name, for the claim. -/
theorem proofSame_holds : Rows.ProofSameSaid := proofSame.proved
end Go.Proofs.Ytcidfahoajmcmaa
