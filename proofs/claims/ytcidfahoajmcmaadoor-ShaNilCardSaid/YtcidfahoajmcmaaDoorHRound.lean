-- Hand-written contracts of this workplace, filled for this seat by a program.
import Derived.Test.YtcidfahoajmcmaaDoorPx0
import Derived.Test.YtcidfahoajmcmaaDoorHParts
import Derived.Test.YtcidfahoajmcmaaDoorHLaid
namespace Go.Proofs.YtcidfahoajmcmaaDoor.P
open Go.RowKit Go.Proofs.YtcidfahoajmcmaaDoorW.PrintWords Go.Proofs.YtcidfahoajmcmaaDoorW.PrintLast Go.Proofs.YtcidfahoajmcmaaDoorW.PrintMore
set_option linter.unusedVariables false
set_option linter.unusedSimpArgs false
set_option linter.unnecessarySimpa false

theorem const_ok.calls (k : Nat) (hk : k < 64) (w : World) (hK : Laid w) : Calls Tryd.prog 62 #[.int .i64 k] w fun e w' => e = .returned (.int .u32 (kConst.getD k 0)) ∧ w = w' := by
  have hc := hK k hk
  have b1 : decide ((k : Int) < 0) = false := decide_eq_false (by omega)
  have b2 : decide ((64 : Int) ≤ (k : Int)) = false := decide_eq_false (by omega)
  have g1 : (k : Int) < 64 := by omega
  have HK := Aside0.mk hK
  clear hK
  go_enter Tryd.func62, Tryd.ntmps62
  go_wp2
  go_ret
  exact ⟨rfl, rfl⟩

structure S8 where
  x0 : Int
  x1 : Int
  x2 : Int
  x3 : Int
  x4 : Int
  x5 : Int
  x6 : Int
  x7 : Int
abbrev stV (s : S8) : Value := .agg #[.int .u32 s.x0, .int .u32 s.x1, .int .u32 s.x2, .int .u32 s.x3, .int .u32 s.x4, .int .u32 s.x5, .int .u32 s.x6, .int .u32 s.x7]
/-- One round. -/
def roundI (s : S8) (k x : Int) : S8 :=
  ⟨(s.x7 + (partsI s.x4 s.x5 s.x6 s.x0 s.x1 s.x2).1 + k + x + (partsI s.x4 s.x5 s.x6 s.x0 s.x1 s.x2).2) % 4294967296, s.x0, s.x1, s.x2,
   (s.x3 + (s.x7 + (partsI s.x4 s.x5 s.x6 s.x0 s.x1 s.x2).1 + k + x)) % 4294967296, s.x4, s.x5, s.x6⟩
set_option maxRecDepth 100000 in
set_option maxHeartbeats 1000000 in
theorem round.calls (s : S8) (k : Nat) (hk : k < 64) (x : Int) (w : World) (hK : Laid w) : Calls Tryd.prog 47 #[stV s, .int .i64 k, .int .u32 x] w fun e w' => e = .returned (stV (roundI s (kConst.getD k 0) x)) ∧ Below w.heap.size w w' := by
  have hu := Tryd.underlying25
  have HK := Aside0.mk hK
  clear hK
  go_enter Tryd.func47, Tryd.ntmps47
  go_wp2_with fail
  go_quiet (fail)
  go_wp2_with fail
  refine (parts.calls _ _ _ _ _ _ _).mono ?_
  rintro en w1 ⟨rfl, ⟨n1, rfl⟩⟩
  go_wp2_with fail
  refine (const_ok.calls k hk _ (HK.out.below (by repeat (first | exact Below.refl _ _ | apply below_alloc | apply pw_below_drewN | apply below_drew)))).mono ?_
  rintro en w1 ⟨rfl, rfl⟩
  go_wp2
  refine bodyPost_ret (v := stV (roundI s (kConst.getD k 0) x)) ?_ rfl ⟨rfl, ?_⟩
  · simp [results, Tryd.results47, go_sem, roundI]
  · repeat (with_reducible first | exact Below.refl _ _ | apply below_alloc | apply pw_below_drewN | apply below_drew | refine Below.setCell ?_ (Nat.le_add_right _ _) _)

end Go.Proofs.YtcidfahoajmcmaaDoor.P
