/- PROVED HERE: the Go function paymasterlaw19.CollideFinds returns true for every input that the given statement speaks of, and each argument reads behind the call as it read before. Conditions: none beyond the given statement's own (the laid table of constants, tied by the card). -/
-- Written by a program of this workplace (wip/tool/rowgen.py). Lean checks it.
import Derived.Test.YtcidfahoajmcmaaDoorRows
import Derived.Test.YtcidfahoajmcmaaDoorRd
import Derived.Test.YtcidfahoajmcmaaDoorPn11
import Derived.Test.YtcidfahoajmcmaaDoorPureCollideFinds
import Derived.Test.YtcidfahoajmcmaaDoorCards
import Derived.Test.YtcidfahoajmcmaaDoorTie
import Derived.Test.YtcidfahoajmcmaaDoorHParts
import Derived.WalkKit
import Derived.ProofKit
import Derived.OpenShut
import Derived.ShutString
import Derived.ChangeOld
import Derived.Below
import Derived.SizedLaws
import Derived.LaidByTextLater
import Derived.SevenTiedAt
namespace Go.Proofs.YtcidfahoajmcmaaDoor.collideFinds
open Go.Proofs.YtcidfahoajmcmaaDoor.P Go.ChangeShapes Go.WideShapes Go.ChangeAt Go.RowKit
open Go.ChangeMaps (open_string shut_string)
open Go.Proofs.YtcidfahoajmcmaaDoorW.PrintWords Go.Proofs.YtcidfahoajmcmaaDoorW.PrintLast Go.Proofs.YtcidfahoajmcmaaDoorW.PrintMore
set_option linter.unusedVariables false
set_option linter.unusedSimpArgs false
theorem own : ownKnob Tryd.prog.godebug = none := by kernel_rfl
theorem laidOut : laidOutB Tryd.prog = true := by kernel_rfl
set_option maxRecDepth 100000 in
theorem lifted (os : Os) (started : os.Started) (H : Type) (enc : TypeId × Value → H) :
    ReturnsInHanded {} Tryd.checked os 10 .any (fun w args => (Rows.collideFindsSpec.pre enc Tryd.prog Tryd.f10 [] false w args ∧ laidMetH Tryd.prog Rows.collideFindsRow.laid w) ∧ sizedMet enc Tryd.prog Tryd.f10 (OpenSpec.ofChange Rows.collideFindsSpec) false w args)
      (Rows.collideFindsSpec.post enc Tryd.prog Tryd.f10 false true false false) := by
  refine returnsInHanded_of_change_and (C := Tryd.checked) (X := fun w _ => laidMetH Tryd.prog Rows.collideFindsRow.laid w) (fun _ _ _ hh h => h.of_heap hh) own started (by kernel_rfl) Tryd.func10
    (ChangeSpec.witness_at (enc := enc) (C := Tryd.checked) (os := os) (X := fun w _ => laidMetH Tryd.prog Rows.collideFindsRow.laid w) false (P.laidWorld os) #[.int .i64 0, .slice none 0 0] 8 rfl (by kernel_rfl) (by kernel_rfl) (by kernel_rfl) (by kernel_rfl) (by kernel_rfl) (P.laidWorld_met os _)) ?_
  intro W base args ds gs before hval0 hW _ hsz0 hL _
  have hval : ∀ (j : Nat) t v, Tryd.f10.params[j]? = some t → args[j]? = some v → Value.okWide Tryd.prog W .any base t v := hval0
  have hW' := hW
  obtain ⟨p, q, hA0, hV, rfl, hfz, hnd⟩ := hW
  have hA : DataW.TrodAll enc Tryd.prog W 0 (fun _ => true) true Tryd.f10.params.toList args.toList ds p := hA0
  rw [Tryd.params10] at hA hval
  obtain ⟨v0, vs0, d0, ds0, p0, q0, hargs, rfl, rfl, h0, r0⟩ := trodAll_cons hA
  obtain ⟨v1, vs1, d1, ds1, p1, q1, rfl, rfl, rfl, h1, r1⟩ := trodAll_cons r0
  obtain ⟨rfl, rfl, rfl⟩ := trodAll_nil r1
  obtain rfl : args = #[v0, v1] := by cases args; simp_all
  obtain ⟨rfl, rfl⟩ := trodVars_none hV
  have hz0 : Sized Tryd.prog 3 d0 := Sized.each hsz0 (j := 0) rfl rfl
  have hz1 : Sized Tryd.prog 48 d1 := Sized.each hsz0 (j := 1) rfl rfl
  have k0 := h0
  have lt0 : ∀ x ∈ p0, x.block < W.heap.size := by obtain ⟨m, hm⟩ := k0; exact DataW.trod_lt m _ _ _ hm
  obtain ⟨y0, rfl, rfl, rfl, w0⟩ := open_int Tryd.underlying3 (hval 0 3 v0 rfl rfl) h0
  have k1 := h1
  have lt1 : ∀ x ∈ p1, x.block < W.heap.size := by obtain ⟨m, hm⟩ := k1; exact DataW.trod_lt m _ _ _ hm
  obtain ⟨a1, len1, cap1, rfl⟩ := okWide_slice Tryd.underlying48 (hval 1 48 v1 rfl rfl)
  obtain ⟨y1, hk1, w1⟩ := (Rd.slice Tryd.underlying48 (by kernel_rfl) (of_decide_eq_true (by kernel_rfl)) (Rd.string Tryd.underlying9)).cell rfl h1 hz1
  obtain ⟨A1, c1, e1, l1, g1⟩ := hk1
  rw [List.cons.injEq] at e1
  obtain ⟨e1, -⟩ := e1
  injection e1 with ea1 el1 ec1
  subst ea1 el1 ec1
  clear hA0 hval0 hsz0
  obtain ⟨k, h⟩ := pure_CollideFinds y0 y1 w0 w1
  refine (paymasterlaw19_CollideFinds.calls k y0 _ _ y1 true W (P.laid_of_met hL) g1 l1 h).mono fun e W' ⟨he, bel0⟩ => ?_
  have bel := bel0
  subst he
  exact ⟨_, rfl, _, _, _, [], _, [], hW', trodAll_mk1 (shut_bool Tryd.underlying4 _), (trodAll_cons_mk (Below.trod laidOut (by kernel_rfl) (of_decide_eq_true (by kernel_rfl)) k0 bel lt0) (trodAll_cons_mk (Below.trod laidOut (by kernel_rfl) (of_decide_eq_true (by kernel_rfl)) k1 bel lt1) trodAll_mk0)), rfl, bel.frame _, fun h => by cases h⟩
theorem over : Rows.collideFindsRow.holds Tryd.pinned (OpenSpec.ofChange Rows.collideFindsSpec) :=
  OpenClaim.holds_of_wide 10 Tryd.f10 rfl rfl rfl rfl rfl rfl rfl ⟨rfl, rfl, rfl, rfl, rfl⟩ rfl rfl rfl rfl rfl (by kernel_rfl) Tryd.func10 (by kernel_rfl)
    (of_decide_eq_true (by kernel_rfl)) (by unfold Func.isWrapper; first | (rw [if_pos (by decide +kernel)]; kernel_rfl) | (rw [if_neg (by decide +kernel)]; exact ⟨rfl, rfl⟩))
    (fun os started H enc _ => lifted os started H enc)
set_option maxRecDepth 100000 in
theorem proved : Rows.CollideFindsCardSaid :=
  Claim7.holds_tied_plain_at .later [] [.data] true (true, "a08cd12a569dfd50d9ce2b1ba367bcd25cd7e107ae1d23db066b46ec4c531b1f") false
    over (fun _ h => by cases h) (by kernel_rfl) (fun _ h => by cases h) collideFinds_row_tie rfl ⟨rfl, rfl⟩ (by kernel_rfl) rfl
    (fun f fn hf hfn => by
      obtain rfl : f = 10 := Option.some.inj ((show Tryd.prog.funcNamed "paymaster/paymasterlaw19.CollideFinds" = some 10 by kernel_rfl).symm.trans hf) |>.symm
      obtain rfl : fn = Tryd.f10 := (Option.some.inj (Tryd.func10.symm.trans hfn)).symm
      exact ⟨by kernel_rfl, fun j t ht => by
        rw [Tryd.params10] at ht
        have h3 : t ∈ [3, 48] := by
          have := List.mem_of_getElem? (l := [3, 48]) (i := j) (a := t) (by simpa using ht)
          exact this
        simp only [List.mem_cons, List.not_mem_nil, or_false] at h3
        rcases h3 with rfl | rfl
        · exact (show Tryd.prog.wantsStandIn 3 = false by kernel_rfl)
        · exact (show Tryd.prog.wantsStandIn 48 = false by kernel_rfl)
      ⟩)
    (by kernel_rfl)
#print axioms proved
end Go.Proofs.YtcidfahoajmcmaaDoor.collideFinds
namespace Go.Proofs.YtcidfahoajmcmaaDoor
/-- The row, under a short name, for the claim. -/
theorem collideFinds_holds : Rows.CollideFindsCardSaid := collideFinds.proved
end Go.Proofs.YtcidfahoajmcmaaDoor
