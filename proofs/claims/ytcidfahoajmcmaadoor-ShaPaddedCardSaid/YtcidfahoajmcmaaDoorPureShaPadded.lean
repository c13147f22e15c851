-- Hand-written contracts of this workplace, filled for this seat by a program.
import Derived.Test.YtcidfahoajmcmaaDoorPx0
import Derived.Test.YtcidfahoajmcmaaDoorPy2
import Derived.Test.YtcidfahoajmcmaaDoorRd
import Derived.Test.YtcidfahoajmcmaaDoorUAwake
import Derived.Test.YtcidfahoajmcmaaDoorUBytes
namespace Go.Proofs.YtcidfahoajmcmaaDoor.P
open Go.RowKit Go.Proofs.YtcidfahoajmcmaaDoorW.PrintWords Go.Proofs.YtcidfahoajmcmaaDoorW.PrintLast Go.Proofs.YtcidfahoajmcmaaDoorW.PrintMore
set_option linter.unusedVariables false
set_option linter.unusedSimpArgs false
set_option linter.unnecessarySimpa false
/-- What the first j bytes of the end come to. -/
def gotI (n : Int) (j : Nat) : Int := IntKind.u64.wrap (n * 8) / 2 ^ (64 - 8 * j)
theorem gotI_step (n : Int) (j : Nat) (hj : j < 8) : IntKind.u64.wrap (IntKind.u64.wrap (gotI n j * 256) + IntKind.u64.wrap (padB n j)) = gotI n (j + 1) := by
  have hm := u64_range (n * 8)
  unfold gotI padB
  generalize IntKind.u64.wrap (n * 8) = m at hm ⊢
  have : j = 0 ∨ j = 1 ∨ j = 2 ∨ j = 3 ∨ j = 4 ∨ j = 5 ∨ j = 6 ∨ j = 7 := by omega
  rcases this with h | h | h | h | h | h | h | h <;> subst h <;> simp only [IntKind.wrap_u64, Nat.reduceMul, Nat.reduceSub, Nat.reduceAdd, Int.reducePow] <;> omega
theorem padI_inj (n m : Int) (hn : 0 ≤ n ∧ n < 2305843009213693952) (hm : 0 ≤ m ∧ m < 2305843009213693952) (h : padI n = padI m) : n = m := by
  have hz : padZ n = padZ m := by
    have := congrArg ByteArray.size h
    rw [padI_size, padI_size] at this
    omega
  have hb : ∀ j, j < 8 → padB n j = padB m j := fun j hj => by
    have e1 := padN_bt n (padZ n + 1 + j) (by omega)
    have e2 := padN_bt m (padZ n + 1 + j) (by omega)
    rw [if_neg (by omega), if_neg (by omega), show padZ n + 1 + j - padZ n - 1 = j by omega] at e1
    rw [if_neg (by omega), if_neg (by omega), ← hz, show padZ n + 1 + j - padZ n - 1 = j by omega, ← h] at e2
    rw [← e1, ← e2]
  have g : ∀ j, j ≤ 8 → gotI n j = gotI m j := by
    intro j
    induction j with
    | zero =>
      intro _
      have h1 := u64_range (n * 8); have h2 := u64_range (m * 8)
      unfold gotI
      simp only [Nat.mul_zero, Nat.sub_zero, Int.reducePow]
      omega
    | succ j ih => intro hj; rw [← gotI_step n j (by omega), ← gotI_step m j (by omega), ih (by omega), hb j (by omega)]
  have g8 := g 8 (by omega)
  simp only [gotI, IntKind.wrap_u64, Nat.reduceMul, Nat.reduceSub, Int.reducePow] at g8
  omega
theorem padded_l0 (n m : Int) (hn : 0 ≤ n ∧ n < 18446744073709551616) (hm : 0 ≤ m ∧ m < 18446744073709551616) : ∀ (d i : Nat), d + i = 9 + padZ n → 1 ≤ i →
    Ev (fun k => paymasterlaw05_ShaPadded.l0 k n m (padI n) (padI m) (if i ≤ padZ n then 0 else gotI n (i - padZ n - 1)) (i : Int)) true
  | 0, i, h, h1 => by
    have hs := padI_size n
    refine Ev.step (f := fun _ => some true) (fun k => ?_) (Ev.now true)
    have e1 : (if i ≤ padZ n then 0 else gotI n (i - padZ n - 1)) = IntKind.u64.wrap (n * 8) := by
      rw [if_neg (by omega), show i - padZ n - 1 = 8 by omega, gotI]
      simp
    rw [paymasterlaw05_ShaPadded.l0, if_neg (by omega), e1, if_pos rfl, if_pos rfl]
    split
    · split
      · congr 1
        by_cases e : n = m
        · subst e; simp
        · rw [toList_beq, decide_eq_false (fun h => e (padI_inj n m ⟨hn.1, by assumption⟩ ⟨hm.1, by assumption⟩ h)), beq_eq_false_iff_ne.2 e]
          rfl
      · rfl
    · rfl
  | d + 1, i, h, h1 => by
    have hs := padI_size n
    have hz : padZ n < 64 := by unfold padZ; omega
    have hb := padN_bt n i (by omega)
    rw [if_neg (by omega)] at hb
    have ew : wrap64 (((padI n).size : Int) - 8) = (padZ n : Int) + 1 := by rw [wrap64_id (by omega) (by omega)]; omega
    have ew2 : wrap64 ((i : Int) + 1) = ((i + 1 : Nat) : Int) := by rw [wrap64_id (by omega) (by omega)]; rfl
    have ih := padded_l0 n m hn hm d (i + 1) (by omega) (by omega)
    refine Ev.step (f := fun k => paymasterlaw05_ShaPadded.j2 k n m (padI n) (padI m) (if i ≤ padZ n then 0 else gotI n (i - padZ n - 1)) (i : Int) false) (fun k => ?_) ?_
    · rw [paymasterlaw05_ShaPadded.l0, if_pos (by omega), ew]
      by_cases hi : i ≤ padZ n
      · rw [if_pos (by omega), if_pos (by omega), hb, if_pos hi, if_pos hi]
        rfl
      · rw [if_neg (by omega)]
    · refine Ev.step (f := fun k => paymasterlaw05_ShaPadded.l0 k n m (padI n) (padI m) (if i + 1 ≤ padZ n then 0 else gotI n (i + 1 - padZ n - 1)) ((i + 1 : Nat) : Int)) (fun k => ?_) ih
      rw [paymasterlaw05_ShaPadded.j2, if_neg (by decide), ew]
      by_cases hi : i ≤ padZ n
      · rw [if_neg (by omega), ew2, if_pos hi]
        by_cases hi2 : i + 1 ≤ padZ n
        · rw [if_pos hi2]
        · rw [if_neg hi2, show i + 1 - padZ n - 1 = 0 by omega]
          have hm := u64_range (n * 8)
          have : gotI n 0 = 0 := by unfold gotI; simp only [Nat.mul_zero, Nat.sub_zero, Int.reducePow]; omega
          rw [this]
      · rw [if_pos (by omega), if_pos (by omega), if_pos (by omega), hb, if_neg hi, if_neg hi, if_neg (by omega), ew2, gotI_step n _ (by omega), show i - padZ n - 1 + 1 = i + 1 - padZ n - 1 by omega]
theorem pure_ShaPadded : ∀ (y0 : Int) (y1 : Int), (Lit.int .u64 y0).wf = true → (Lit.int .u64 y1).wf = true → ∃ k, paymasterlaw05_ShaPadded.f k y0 y1 = some true := by
  intro n m hn hm
  have hn := wf_u64 hn
  have hm := wf_u64 hm
  refine Ev.rounds ?_
  have e1 : sha_Padding.f n = some (padI n) := by rw [sha_Padding.f, if_pos hn]
  have e2 : sha_Padding.f m = some (padI m) := by rw [sha_Padding.f, if_pos hm]
  have hs := padI_size n
  have hz : padZ n < 64 := by unfold padZ; omega
  have hzz : ((padZ n : Nat) : Int) = (119 - n) % 64 := by simp only [padZ]; omega
  have e3 : Int.tmod (IntKind.u64.wrap ((Int.tmod n 64) + (IntKind.u64.wrap (((padI n).size : Int))))) 64 = 0 := by
    rw [Int.tmod_eq_emod_of_nonneg hn.1, IntKind.wrap_u64, IntKind.wrap_u64, Int.tmod_eq_emod_of_nonneg (by omega)]
    omega
  have hb := padN_bt n 0 (by omega)
  rw [if_pos rfl] at hb
  refine Ev.congr (f := fun k => paymasterlaw05_ShaPadded.j0 k n m (padI n) (padI m) false) (fun k => ?_) ?_
  · unfold paymasterlaw05_ShaPadded.f
    rw [awake_eq, Option.bind_some, if_pos rfl, e1, e2, Option.bind_some, Option.bind_some, if_neg (by omega), if_neg (by omega), if_pos e3, if_pos (by omega)]
    congr 1
  · refine Ev.step (f := fun k => paymasterlaw05_ShaPadded.l0 k n m (padI n) (padI m) 0 1) (fun k => ?_) ?_
    · rw [paymasterlaw05_ShaPadded.j0, if_neg (by decide)]
    · have := padded_l0 n m hn hm (8 + padZ n) 1 (by omega) (by omega)
      by_cases hi : 1 ≤ padZ n
      · rw [if_pos hi] at this; exact this
      · rw [if_neg hi, show 1 - padZ n - 1 = 0 by omega] at this
        have hmm := u64_range (n * 8)
        have g0 : gotI n 0 = 0 := by unfold gotI; simp only [Nat.mul_zero, Nat.sub_zero, Int.reducePow]; omega
        rw [g0] at this
        exact this

end Go.Proofs.YtcidfahoajmcmaaDoor.P
