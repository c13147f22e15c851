-- Hand-written contracts of this workplace, filled for this seat by a program.
import Derived.Test.YtlmmpncdemblbaaDoorPx0
import Derived.Test.YtlmmpncdemblbaaDoorPn2
import Derived.Test.YtlmmpncdemblbaaDoorPn3
import Derived.Test.YtlmmpncdemblbaaDoorPn4
import Derived.Test.YtlmmpncdemblbaaDoorUBase
import Derived.Test.YtlmmpncdemblbaaDoorHU128
namespace Go.Proofs.YtlmmpncdemblbaaDoor.P
open Go.RowKit Go.Proofs.YtlmmpncdemblbaaDoorW.PrintWords Go.Proofs.YtlmmpncdemblbaaDoorW.PrintLast Go.Proofs.YtlmmpncdemblbaaDoorW.PrintMore
set_option linter.unusedVariables false
set_option linter.unusedSimpArgs false
set_option linter.unnecessarySimpa false

/-! Layer 1, by digits: the sum and the bytes are what they are by halves. -/
theorem dig_l0_step {l r : List Int} {x4 hi lo : Int} (hx : 0 ≤ x4 ∧ x4 < 4) (h0 : 0 ≤ lo) (h1 : lo < 18446744073709551616) (hl : l.length < 1000)
    (h : Ev (fun k => paymasterref01_digits.l0 k (l ++ [lo % 65536]) (x4 + 1) hi (lo / 65536)) r) : Ev (fun k => paymasterref01_digits.l0 k l x4 hi lo) r := by
  refine Ev.step (f := fun k => paymasterref01_digits.l0 k (l ++ [lo % 65536]) (x4 + 1) hi (lo / 65536)) (fun k => ?_) h
  have e1 : Int.tmod lo 65536 = lo % 65536 := Int.tmod_eq_emod_of_nonneg h0
  have e2 : Int.tdiv lo 65536 = lo / 65536 := Int.tdiv_eq_ediv_of_nonneg h0
  rw [paymasterref01_digits.l0, if_pos hx.2, if_pos (by omega), e1, e2, wrap64_id (by omega) (by omega), wrapu64_id (by omega) (by omega)]
theorem dig_l1_step {l r : List Int} {x5 hi lo : Int} (hx : 0 ≤ x5 ∧ x5 < 4) (h0 : 0 ≤ hi) (h1 : hi < 18446744073709551616) (hl : l.length < 1000)
    (h : Ev (fun k => paymasterref01_digits.l1 k (l ++ [hi % 65536]) (x5 + 1) (hi / 65536) lo) r) : Ev (fun k => paymasterref01_digits.l1 k l x5 hi lo) r := by
  refine Ev.step (f := fun k => paymasterref01_digits.l1 k (l ++ [hi % 65536]) (x5 + 1) (hi / 65536) lo) (fun k => ?_) h
  have e1 : Int.tmod hi 65536 = hi % 65536 := Int.tmod_eq_emod_of_nonneg h0
  have e2 : Int.tdiv hi 65536 = hi / 65536 := Int.tdiv_eq_ediv_of_nonneg h0
  rw [paymasterref01_digits.l1, if_pos hx.2, if_pos (by omega), e1, e2, wrap64_id (by omega) (by omega), wrapu64_id (by omega) (by omega)]
/-- A number's eight digits, the least first. -/
def digsI (hi lo : Int) : List Int := [lo % 65536, lo / 65536 % 65536, lo / 65536 / 65536 % 65536, lo / 65536 / 65536 / 65536 % 65536, hi % 65536, hi / 65536 % 65536, hi / 65536 / 65536 % 65536, hi / 65536 / 65536 / 65536 % 65536]
theorem digits_ev (hi lo : Int) (h0 : 0 ≤ hi) (h1 : hi < 18446744073709551616) (l0 : 0 ≤ lo) (l1 : lo < 18446744073709551616) : Ev (fun k => paymasterref01_digits.f k hi lo) (digsI hi lo) := by
  unfold paymasterref01_digits.f
  refine dig_l0_step (by omega) l0 l1 (by simp) ?_
  refine dig_l0_step (by omega) (by omega) (by omega) (by simp) ?_
  refine dig_l0_step (by omega) (by omega) (by omega) (by simp) ?_
  refine dig_l0_step (by omega) (by omega) (by omega) (by simp) ?_
  refine Ev.step (f := fun k => paymasterref01_digits.l1 k ([] ++ [lo % 65536] ++ [lo / 65536 % 65536] ++ [lo / 65536 / 65536 % 65536] ++ [lo / 65536 / 65536 / 65536 % 65536]) 0 hi (lo / 65536 / 65536 / 65536 / 65536)) (fun k => by rw [paymasterref01_digits.l0, if_neg (by decide)]) ?_
  refine dig_l1_step (by omega) h0 h1 (by simp) ?_
  refine dig_l1_step (by omega) (by omega) (by omega) (by simp) ?_
  refine dig_l1_step (by omega) (by omega) (by omega) (by simp) ?_
  refine dig_l1_step (by omega) (by omega) (by omega) (by simp) ?_
  refine Ev.step (f := fun _ => some (digsI hi lo)) (fun k => by rw [paymasterref01_digits.l1, if_neg (by decide)]; rfl) (Ev.now _)
theorem num_hi {l : List Int} {i h lo : Int} {r : Int × Int × Bool} (hi : 4 ≤ i ∧ i < 8) (hl : i < (l.length : Int)) (b0 : 0 ≤ h) (b1 : h < 281474976710656) (d0 : 0 ≤ rd l i) (d1 : rd l i < 65536)
    (k : Ev (fun k => paymasterref01_number.l0 k l (i - 1) (h * 65536 + rd l i) lo) r) : Ev (fun k => paymasterref01_number.l0 k l i h lo) r := by
  refine Ev.step (f := fun k => paymasterref01_number.j1 k l i false h lo) (fun k => by rw [paymasterref01_number.l0, if_pos (by omega), if_neg (by omega)]) ?_
  refine Ev.step (f := fun k => paymasterref01_number.j2 k l i true h lo) (fun k => by rw [paymasterref01_number.j1, if_neg (by decide), if_pos hi.2, decide_eq_true (by omega)]) ?_
  refine Ev.step (f := fun k => paymasterref01_number.l0 k l (i - 1) (h * 65536 + rd l i) lo) (fun k => ?_) k
  rw [paymasterref01_number.j2, if_pos rfl, if_pos (by omega), if_pos hl, if_neg (by omega), wrap64_id (by omega) (by omega), wrapu64_id (x := h * 65536) (by omega) (by omega), wrapu64_id (by omega) (by omega)]
theorem num_lo {l : List Int} {i h lo : Int} {r : Int × Int × Bool} (hi : 0 ≤ i ∧ i < 4) (hl : i < (l.length : Int)) (b0 : 0 ≤ lo) (b1 : lo < 281474976710656) (d0 : 0 ≤ rd l i) (d1 : rd l i < 65536)
    (k : Ev (fun k => paymasterref01_number.l0 k l (i - 1) h (lo * 65536 + rd l i)) r) : Ev (fun k => paymasterref01_number.l0 k l i h lo) r := by
  refine Ev.step (f := fun k => paymasterref01_number.j1 k l i false h lo) (fun k => by rw [paymasterref01_number.l0, if_pos (by omega), if_neg (by omega)]) ?_
  refine Ev.step (f := fun k => paymasterref01_number.j2 k l i false h lo) (fun k => by rw [paymasterref01_number.j1, if_neg (by decide), if_pos (by omega), decide_eq_false (by omega)]) ?_
  refine Ev.step (f := fun k => paymasterref01_number.l0 k l (i - 1) h (lo * 65536 + rd l i)) (fun k => ?_) k
  rw [paymasterref01_number.j2, if_neg (by decide), if_pos (by omega), if_pos (by omega), if_pos hl, wrap64_id (by omega) (by omega), wrapu64_id (x := lo * 65536) (by omega) (by omega), wrapu64_id (by omega) (by omega)]
structure Dig (x : Int) : Prop where
  h0 : 0 ≤ x
  h1 : x < 65536
theorem number_ev (d0 d1 d2 d3 d4 d5 d6 d7 c : Int) (h0 : Dig d0) (h1 : Dig d1) (h2 : Dig d2) (h3 : Dig d3) (h4 : Dig d4) (h5 : Dig d5) (h6 : Dig d6) (h7 : Dig d7) :
    Ev (fun k => paymasterref01_number.f k [d0, d1, d2, d3, d4, d5, d6, d7, c]) (if c = 0 then (((d7 * 65536 + d6) * 65536 + d5) * 65536 + d4, ((d3 * 65536 + d2) * 65536 + d1) * 65536 + d0, true) else (0, 0, false)) := by
  have e8 : rd [d0, d1, d2, d3, d4, d5, d6, d7, c] 8 = c := rfl
  have e7 : rd [d0, d1, d2, d3, d4, d5, d6, d7, c] 7 = d7 := rfl
  have e6 : rd [d0, d1, d2, d3, d4, d5, d6, d7, c] 6 = d6 := rfl
  have e5 : rd [d0, d1, d2, d3, d4, d5, d6, d7, c] 5 = d5 := rfl
  have e4 : rd [d0, d1, d2, d3, d4, d5, d6, d7, c] 4 = d4 := rfl
  have e3 : rd [d0, d1, d2, d3, d4, d5, d6, d7, c] 3 = d3 := rfl
  have e2 : rd [d0, d1, d2, d3, d4, d5, d6, d7, c] 2 = d2 := rfl
  have e1 : rd [d0, d1, d2, d3, d4, d5, d6, d7, c] 1 = d1 := rfl
  have e0 : rd [d0, d1, d2, d3, d4, d5, d6, d7, c] 0 = d0 := rfl
  obtain ⟨⟨a0, b0⟩, ⟨a1, b1⟩, ⟨a2, b2⟩, ⟨a3, b3⟩, ⟨a4, b4⟩, ⟨a5, b5⟩, ⟨a6, b6⟩, ⟨a7, b7⟩⟩ := And.intro h0 (And.intro h1 (And.intro h2 (And.intro h3 (And.intro h4 (And.intro h5 (And.intro h6 h7))))))
  unfold paymasterref01_number.f
  have ew : wrap64 (([d0, d1, d2, d3, d4, d5, d6, d7, c].length : Int) - 1) = 8 := by rw [wrap64_id] <;> simp
  rw [ew]
  by_cases hc : c = 0
  · rw [if_pos hc]
    refine Ev.step (f := fun k => paymasterref01_number.j1 k [d0, d1, d2, d3, d4, d5, d6, d7, c] 8 false 0 0) (fun k => ?_) ?_
    · rw [paymasterref01_number.l0, if_pos (by omega), if_pos (by omega), if_pos (by omega), if_pos (by simp), e8, hc]; rfl
    refine Ev.step (f := fun k => paymasterref01_number.j2 k [d0, d1, d2, d3, d4, d5, d6, d7, c] 8 false 0 0) (fun k => by rw [paymasterref01_number.j1, if_neg (by decide), if_neg (by decide)]) ?_
    refine Ev.step (f := fun k => paymasterref01_number.l0 k [d0, d1, d2, d3, d4, d5, d6, d7, c] 7 0 0) (fun k => by rw [paymasterref01_number.j2, if_neg (by decide), if_neg (by decide), wrap64_id (by decide) (by decide)]; rfl) ?_
    refine num_hi (by omega) (by simp) (by omega) (by omega) (by rw [e7]; omega) (by rw [e7]; omega) ?_
    rw [e7]
    refine num_hi (by omega) (by simp) (by omega) (by omega) (by simp only [Int.reduceSub]; rw [e6]; omega) (by simp only [Int.reduceSub]; rw [e6]; omega) ?_
    simp only [Int.reduceSub]
    rw [e6]
    refine num_hi (by omega) (by simp) (by omega) (by omega) (by rw [e5]; omega) (by rw [e5]; omega) ?_
    simp only [Int.reduceSub]
    rw [e5]
    refine num_hi (by omega) (by simp) (by omega) (by omega) (by rw [e4]; omega) (by rw [e4]; omega) ?_
    simp only [Int.reduceSub]
    rw [e4]
    refine num_lo (by omega) (by simp) (by omega) (by omega) (by rw [e3]; omega) (by rw [e3]; omega) ?_
    simp only [Int.reduceSub]
    rw [e3]
    refine num_lo (by omega) (by simp) (by omega) (by omega) (by rw [e2]; omega) (by rw [e2]; omega) ?_
    simp only [Int.reduceSub]
    rw [e2]
    refine num_lo (by omega) (by simp) (by omega) (by omega) (by rw [e1]; omega) (by rw [e1]; omega) ?_
    simp only [Int.reduceSub]
    rw [e1]
    refine num_lo (by omega) (by simp) (by omega) (by omega) (by rw [e0]; omega) (by rw [e0]; omega) ?_
    simp only [Int.reduceSub]
    rw [e0]
    refine Ev.step (f := fun _ => some _) (fun k => by rw [paymasterref01_number.l0, if_neg (by decide)]) (ev_eq (Ev.now _) ?_)
    simp only [Int.zero_mul, Int.zero_add]
  · rw [if_neg hc]
    refine Ev.step (f := fun k => paymasterref01_number.j1 k [d0, d1, d2, d3, d4, d5, d6, d7, c] 8 true 0 0) (fun k => ?_) ?_
    · rw [paymasterref01_number.l0, if_pos (by omega), if_pos (by omega), if_pos (by omega), if_pos (by simp), e8, bne_iff_ne.2 hc]
    exact Ev.step (f := fun _ => some (0, 0, false)) (fun k => by rw [paymasterref01_number.j1, if_pos rfl]) (Ev.now _)
theorem add_step {x y l : List Int} {c i : Int} (d e : Int) {r : Int × Int × Int} (hi : 0 ≤ i ∧ i < 8) (hx : x.length = 8) (hy : y.length = 8) (hl : l.length < 1000) (ex : rd x i = d) (ey : rd y i = e) (hd : Dig d) (he : Dig e) (hc : 0 ≤ c ∧ c ≤ 1)
    (k : Ev (fun k => paymasterref01_Add.l0 k x y ((d + e + c) / 65536) (l ++ [(d + e + c) % 65536]) (i + 1)) r) : Ev (fun k => paymasterref01_Add.l0 k x y c l i) r := by
  obtain ⟨a0, b0⟩ := hd
  obtain ⟨a1, b1⟩ := he
  refine Ev.step (f := fun k => paymasterref01_Add.l0 k x y ((d + e + c) / 65536) (l ++ [(d + e + c) % 65536]) (i + 1)) (fun k => ?_) k
  rw [paymasterref01_Add.l0, if_pos hi.2, if_pos hi.1, if_pos (by omega), if_pos (by omega), if_pos (by omega), ex, ey, wrapu64_id (x := d + e) (by omega) (by omega), wrapu64_id (x := d + e + c) (by omega) (by omega), Int.tdiv_eq_ediv_of_nonneg (by omega), Int.tmod_eq_emod_of_nonneg (by omega), wrapu64_id (by omega) (by omega), wrap64_id (by omega) (by omega)]
/-- The sum, by halves. -/
def addI128 (a0 a1 b0 b1 : Int) : Int × Int × Int :=
  if a0 + b0 + (a1 + b1) / 18446744073709551616 < 18446744073709551616 then (a0 + b0 + (a1 + b1) / 18446744073709551616, (a1 + b1) % 18446744073709551616, 0) else (0, 0, 10)
theorem u128Add_eq (a0 a1 b0 b1 : Int) (ha0 : 0 ≤ a0 ∧ a0 < 18446744073709551616) (ha1 : 0 ≤ a1 ∧ a1 < 18446744073709551616) (hb0 : 0 ≤ b0 ∧ b0 < 18446744073709551616) (hb1 : 0 ≤ b1 ∧ b1 < 18446744073709551616) :
    u128_Add.f a0 a1 b0 b1 = some (addI128 a0 a1 b0 b1) := by
  unfold u128_Add.f addI128
  rw [if_pos ⟨⟨ha0, ha1⟩, hb0, hb1⟩]
  split <;> rfl
theorem dig_mod (x : Int) : Dig (x % 65536) := ⟨by omega, by omega⟩
theorem val4 (x : Int) (h0 : 0 ≤ x) (h1 : x < 18446744073709551616) : ((x / 65536 / 65536 / 65536 % 65536 * 65536 + x / 65536 / 65536 % 65536) * 65536 + x / 65536 % 65536) * 65536 + x % 65536 = x := by omega
theorem refAdd_ev (a0 a1 b0 b1 : Int) (ha0 : 0 ≤ a0 ∧ a0 < 18446744073709551616) (ha1 : 0 ≤ a1 ∧ a1 < 18446744073709551616) (hb0 : 0 ≤ b0 ∧ b0 < 18446744073709551616) (hb1 : 0 ≤ b1 ∧ b1 < 18446744073709551616) :
    Ev (fun k => paymasterref01_Add.f k a0 a1 b0 b1) (addI128 a0 a1 b0 b1) := by
  unfold paymasterref01_Add.f
  refine Ev.bind (digits_ev a0 a1 ha0.1 ha0.2 ha1.1 ha1.2) (Ev.bind (digits_ev b0 b1 hb0.1 hb0.2 hb1.1 hb1.2) ?_)
  have va0 := val4 a0 ha0.1 ha0.2
  have va1 := val4 a1 ha1.1 ha1.2
  have vb0 := val4 b0 hb0.1 hb0.2
  have vb1 := val4 b1 hb1.1 hb1.2
  unfold digsI
  have g0 := dig_mod a1
  have g1 := dig_mod (a1 / 65536)
  have g2 := dig_mod (a1 / 65536 / 65536)
  have g3 := dig_mod (a1 / 65536 / 65536 / 65536)
  have g4 := dig_mod a0
  have g5 := dig_mod (a0 / 65536)
  have g6 := dig_mod (a0 / 65536 / 65536)
  have g7 := dig_mod (a0 / 65536 / 65536 / 65536)
  have k0 := dig_mod b1
  have k1 := dig_mod (b1 / 65536)
  have k2 := dig_mod (b1 / 65536 / 65536)
  have k3 := dig_mod (b1 / 65536 / 65536 / 65536)
  have k4 := dig_mod b0
  have k5 := dig_mod (b0 / 65536)
  have k6 := dig_mod (b0 / 65536 / 65536)
  have k7 := dig_mod (b0 / 65536 / 65536 / 65536)
  generalize a1 % 65536 = x0 at *
  generalize a1 / 65536 % 65536 = x1 at *
  generalize a1 / 65536 / 65536 % 65536 = x2 at *
  generalize a1 / 65536 / 65536 / 65536 % 65536 = x3 at *
  generalize a0 % 65536 = x4 at *
  generalize a0 / 65536 % 65536 = x5 at *
  generalize a0 / 65536 / 65536 % 65536 = x6 at *
  generalize a0 / 65536 / 65536 / 65536 % 65536 = x7 at *
  generalize b1 % 65536 = y0 at *
  generalize b1 / 65536 % 65536 = y1 at *
  generalize b1 / 65536 / 65536 % 65536 = y2 at *
  generalize b1 / 65536 / 65536 / 65536 % 65536 = y3 at *
  generalize b0 % 65536 = y4 at *
  generalize b0 / 65536 % 65536 = y5 at *
  generalize b0 / 65536 / 65536 % 65536 = y6 at *
  generalize b0 / 65536 / 65536 / 65536 % 65536 = y7 at *
  have step : ∀ c d e : Int, Dig d → Dig e → 0 ≤ c ∧ c ≤ 1 → 0 ≤ (d + e + c) / 65536 ∧ (d + e + c) / 65536 ≤ 1 := fun c d e hd he hc => by have := hd.1; have := hd.2; have := he.1; have := he.2; omega
  have s0 : (0 : Int) ≤ 0 ∧ (0 : Int) ≤ 1 := by omega
  have s1 := step 0 x0 y0 g0 k0 s0
  have s2 := step _ x1 y1 g1 k1 s1
  have s3 := step _ x2 y2 g2 k2 s2
  have s4 := step _ x3 y3 g3 k3 s3
  have s5 := step _ x4 y4 g4 k4 s4
  have s6 := step _ x5 y5 g5 k5 s5
  have s7 := step _ x6 y6 g6 k6 s6
  refine add_step x0 y0 (by omega) rfl rfl (by simp) rfl rfl g0 k0 s0 ?_
  refine add_step x1 y1 (by omega) rfl rfl (by simp) rfl rfl g1 k1 s1 ?_
  refine add_step x2 y2 (by omega) rfl rfl (by simp) rfl rfl g2 k2 s2 ?_
  refine add_step x3 y3 (by omega) rfl rfl (by simp) rfl rfl g3 k3 s3 ?_
  refine add_step x4 y4 (by omega) rfl rfl (by simp) rfl rfl g4 k4 s4 ?_
  refine add_step x5 y5 (by omega) rfl rfl (by simp) rfl rfl g5 k5 s5 ?_
  refine add_step x6 y6 (by omega) rfl rfl (by simp) rfl rfl g6 k6 s6 ?_
  refine add_step x7 y7 (by omega) rfl rfl (by simp) rfl rfl g7 k7 s7 ?_
  clear step
  refine Ev.step (f := fun k => _) (fun k => by rw [paymasterref01_Add.l0, if_neg (by decide), if_pos (by simp)]) ?_
  refine Ev.bind (number_ev _ _ _ _ _ _ _ _ _ (dig_mod _) (dig_mod _) (dig_mod _) (dig_mod _) (dig_mod _) (dig_mod _) (dig_mod _) (dig_mod _)) ?_
  have qr : ∀ n : Int, ∃ q m : Int, n / 65536 = q ∧ n % 65536 = m ∧ n = q * 65536 + m ∧ 0 ≤ m ∧ m < 65536 := fun n => ⟨_, _, rfl, rfl, by omega, by omega, by omega⟩
  obtain ⟨q0, m0, hq0, hm0, e0, l0, u0⟩ := qr (x0 + y0 + 0)
  simp only [hq0, hm0] at s1 s2 s3 s4 s5 s6 s7 ⊢
  clear hq0 hm0
  obtain ⟨q1, m1, hq1, hm1, e1, l1, u1⟩ := qr (x1 + y1 + q0)
  simp only [hq1, hm1] at s2 s3 s4 s5 s6 s7 ⊢
  clear hq1 hm1
  obtain ⟨q2, m2, hq2, hm2, e2, l2, u2⟩ := qr (x2 + y2 + q1)
  simp only [hq2, hm2] at s3 s4 s5 s6 s7 ⊢
  clear hq2 hm2
  obtain ⟨q3, m3, hq3, hm3, e3, l3, u3⟩ := qr (x3 + y3 + q2)
  simp only [hq3, hm3] at s4 s5 s6 s7 ⊢
  clear hq3 hm3
  obtain ⟨q4, m4, hq4, hm4, e4, l4, u4⟩ := qr (x4 + y4 + q3)
  simp only [hq4, hm4] at s5 s6 s7 ⊢
  clear hq4 hm4
  obtain ⟨q5, m5, hq5, hm5, e5, l5, u5⟩ := qr (x5 + y5 + q4)
  simp only [hq5, hm5] at s6 s7 ⊢
  clear hq5 hm5
  obtain ⟨q6, m6, hq6, hm6, e6, l6, u6⟩ := qr (x6 + y6 + q5)
  simp only [hq6, hm6] at s7 ⊢
  clear hq6 hm6
  obtain ⟨q7, m7, hq7, hm7, e7, l7, u7⟩ := qr (x7 + y7 + q6)
  simp only [hq7, hm7]
  clear hq7 hm7
  have hq70 : 0 ≤ q7 := by have := g7.h0; have := k7.h0; omega
  have hlo : a1 + b1 = q3 * 18446744073709551616 + (((m3 * 65536 + m2) * 65536 + m1) * 65536 + m0) := by omega
  have hhi : a0 + b0 + q3 = q7 * 18446744073709551616 + (((m7 * 65536 + m6) * 65536 + m5) * 65536 + m4) := by omega
  have hL : 0 ≤ ((m3 * 65536 + m2) * 65536 + m1) * 65536 + m0 ∧ ((m3 * 65536 + m2) * 65536 + m1) * 65536 + m0 < 18446744073709551616 := by omega
  have hH : 0 ≤ ((m7 * 65536 + m6) * 65536 + m5) * 65536 + m4 ∧ ((m7 * 65536 + m6) * 65536 + m5) * 65536 + m4 < 18446744073709551616 := by omega
  generalize ((m3 * 65536 + m2) * 65536 + m1) * 65536 + m0 = L at *
  generalize ((m7 * 65536 + m6) * 65536 + m5) * 65536 + m4 = H at *
  have h4 : (a1 + b1) / 18446744073709551616 = q3 := by omega
  have h5 : (a1 + b1) % 18446744073709551616 = L := by omega
  clear hlo e0 e1 e2 e3 e4 e5 e6 e7 va0 va1 vb0 vb1 s0 s1 s2 s3 s4 s5 s6 s7 l0 l1 l2 l3 l4 l5 l6 l7 u0 u1 u2 u3 u4 u5 u6 u7
  unfold addI128
  rw [h4, h5]
  clear h4 h5
  by_cases hq : q7 = 0
  · have hs : a0 + b0 + q3 = H := by rw [hhi, hq]; omega
    rw [hs, if_pos hH.2]
    exact Ev.some_ (fun k => by simp [hq])
  · have hs : ¬ a0 + b0 + q3 < 18446744073709551616 := by omega
    rw [if_neg hs]
    exact Ev.some_ (fun k => by simp [hq])
theorem bytes_step {x l : List Int} {i : Int} {r : ByteArray} (hi : 0 ≤ i ∧ i < 8) (hx : x.length = 8) (hl : l.length < 1000) (d : Int) (ex : rd x i = d) (hd : Dig d)
    (k : Ev (fun k => paymasterref01_Bytes.l0 k x (l ++ [d / 256, d % 256]) (i - 1)) r) : Ev (fun k => paymasterref01_Bytes.l0 k x l i) r := by
  obtain ⟨a0, b0⟩ := hd
  refine Ev.step (f := fun k => paymasterref01_Bytes.l0 k x (l ++ [d / 256, d % 256]) (i - 1)) (fun k => ?_) k
  rw [paymasterref01_Bytes.l0, if_pos (by omega), if_pos hi.1, if_pos (by omega), ex, Int.tdiv_eq_ediv_of_nonneg (by omega), Int.tmod_eq_emod_of_nonneg (by omega), wrapu64_id (by omega) (by omega)]
  simp only [Option.bind_some]
  rw [if_pos (by simp; omega), wrap64_id (by omega) (by omega), show d / 256 % 256 = d / 256 by omega, show d % 256 % 256 = d % 256 by omega]
theorem refBytes_ev (hi lo : Int) (h0 : 0 ≤ hi ∧ hi < 18446744073709551616) (l0 : 0 ≤ lo ∧ lo < 18446744073709551616) : Ev (fun k => paymasterref01_Bytes.f k hi lo) (u128B hi lo) := by
  unfold paymasterref01_Bytes.f
  refine Ev.bind (digits_ev hi lo h0.1 h0.2 l0.1 l0.2) ?_
  unfold digsI
  refine bytes_step (by omega) rfl (by simp) (hi / 65536 / 65536 / 65536 % 65536) rfl (dig_mod _) ?_
  refine bytes_step (by omega) rfl (by simp) (hi / 65536 / 65536 % 65536) rfl (dig_mod _) ?_
  refine bytes_step (by omega) rfl (by simp) (hi / 65536 % 65536) rfl (dig_mod _) ?_
  refine bytes_step (by omega) rfl (by simp) (hi % 65536) rfl (dig_mod _) ?_
  refine bytes_step (by omega) rfl (by simp) (lo / 65536 / 65536 / 65536 % 65536) rfl (dig_mod _) ?_
  refine bytes_step (by omega) rfl (by simp) (lo / 65536 / 65536 % 65536) rfl (dig_mod _) ?_
  refine bytes_step (by omega) rfl (by simp) (lo / 65536 % 65536) rfl (dig_mod _) ?_
  refine bytes_step (by omega) rfl (by simp) (lo % 65536) rfl (dig_mod _) ?_
  refine Ev.step (f := fun _ => some _) (fun k => by rw [paymasterref01_Bytes.l0, if_neg (by decide)]) (ev_eq (Ev.now _) ?_)
  unfold u128B
  congr 1
  simp only [List.range, List.range.loop, List.map_cons, List.map_nil, List.nil_append, List.cons_append, halfB, Nat.reduceMul, Nat.reduceSub, Int.reducePow, List.cons.injEq, and_true]
  refine ⟨?_, ?_, ?_, ?_, ?_, ?_, ?_, ?_, ?_, ?_, ?_, ?_, ?_, ?_, ?_, ?_⟩ <;> omega
theorem u128B_size (hi lo : Int) : (u128B hi lo).size = 16 := by rw [u128B, strOfNums_size]; rfl
theorem u128Bytes_eq (hi lo : Int) : u128_Bytes.f hi lo = some (u128B hi lo) := rfl

end Go.Proofs.YtlmmpncdemblbaaDoor.P
