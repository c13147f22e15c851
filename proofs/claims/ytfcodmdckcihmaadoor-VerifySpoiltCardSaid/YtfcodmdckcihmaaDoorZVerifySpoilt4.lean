/- PROVED HERE: the Go function paymasterlaw17.VerifySpoilt returns true for every input that the given statement speaks of, and each argument reads behind the call as it read before. Conditions: none beyond the given statement's own (the laid table of constants, tied by the card). -/
-- Several texts of this workplace as one.
import Derived.Test.YtfcodmdckcihmaaDoorZVerifySpoilt3
import Derived.Test.YtfcodmdckcihmaaDoorProg
import Derived.Deep.OwnRows
import Derived.Laws.Rows
import Derived.Test.YtfcodmdckcihmaaDoorRows
import Derived.Test.YtfcodmdckcihmaaDoorCards
import Derived.Test.YtfcodmdckcihmaaDoorTie
namespace Go.Proofs.YtfcodmdckcihmaaDoor.P
open Go.RowKit Go.Proofs.YtfcodmdckcihmaaDoorW.PrintWords Go.Proofs.YtfcodmdckcihmaaDoorW.PrintLast Go.Proofs.YtfcodmdckcihmaaDoorW.PrintMore
set_option linter.unusedVariables false
set_option linter.unusedSimpArgs false
set_option linter.unnecessarySimpa false
theorem askRoot_ev (r : SRoot) (e : SEntry) : Ev (fun k => verify_asked_root.f k r.f0 r.f1.f0 r.f1.f1 r.f2 e.f0.f0 e.f0.f1 e.f0.f2 e.f0.f3.f0 e.f0.f3.f1 e.f1.f0 e.f1.f1) (mayRI r) := by
 unfold verify_asked_root.f
 exact Ev.bind (verifyMay_ev r) (Ev.now _)
theorem askShape_eq (r : SRoot) (e : SEntry) : verify_asked_shape.f r.f0 r.f1.f0 r.f1.f1 r.f2 e.f0.f0 e.f0.f1 e.f0.f2 e.f0.f3.f0 e.f0.f3.f1 e.f1.f0 e.f1.f1 = some (shapeN (r.f0.size : Int) r.f2 e.f1.f0 e.f1.f1) := by
 unfold verify_asked_shape.f
 rw [proofShape_eq]; rfl
set_option maxRecDepth 100000 in
set_option maxHeartbeats 4000000 in
theorem check.calls (r : SRoot) (e : SEntry) (A : Option Addr) (c : Nat) (w : World) (hK : LaidT w) (hr : Kd.C kNode w A e.f1.f1.length e.f1.f1) (hc : e.f1.f1.length ≤ c) (he : OkE e) :
  Calls Tryd.prog 44 #[.agg (rootA r), .agg (entU e A c)] w fun x w' => x = .returned (.int .i64 (checkI r e)) ∧ Below w.heap.size w w' := by
 have HK := aM' hK
 have HR := aM' hr
 have HC := aM' hc
 have HE := aM' he
 obtain ⟨kr, hkr⟩ := askRoot_ev r e
 have HRo := aM' (hkr kr (Nat.le_refl _))
 have HLe := aM' (askLeaf_eq e he r.f0 r.f1.f0 r.f1.f1 r.f2)
 have HSh := aM' (askShape_eq r e)
 obtain ⟨res, hres⟩ : ∃ res, (if (climbE (r.f0.size : Int) e).2.2.2 = 0 then (if (climbE (r.f0.size : Int) e).1.toList = r.f0.toList ∧ (climbE (r.f0.size : Int) e).2.1 = r.f1.f0 ∧ (climbE (r.f0.size : Int) e).2.2.1 = r.f1.f1 then 0 else 160) else (climbE (r.f0.size : Int) e).2.2.2) = res := ⟨_, rfl⟩
 have HCk := aM' (show checkI r e = if mayRI r = 0 then (if mayLeafI e.f0 = true then (if shapeN (r.f0.size : Int) r.f2 e.f1.f0 e.f1.f1 = 0 then res else shapeN (r.f0.size : Int) r.f2 e.f1.f0 e.f1.f1) else 130) else mayRI r by rw [← hres]; rfl)
 have HRes := aM' hres
 clear hK hr hc he hkr hres
 generalize checkI r e = ck at HCk ⊢
 generalize mayRI r = mr at HRo HCk
 generalize shapeN (r.f0.size : Int) r.f2 e.f1.f0 e.f1.f1 = sh at HSh HCk
 have i0 : ∀ (f0 f1 f2 f3 : Value) (w : World), (Instr.index 148 (.agg #[f0, f1, f2, f3]) (.int .i64 0)).run Tryd.prog w = .ok f0 w := fun _ _ _ _ _ => by kernel_rfl
 have i1 : ∀ (f0 f1 f2 f3 : Value) (w : World), (Instr.index 148 (.agg #[f0, f1, f2, f3]) (.int .i64 1)).run Tryd.prog w = .ok f1 w := fun _ _ _ _ _ => by kernel_rfl
 have i2 : ∀ (f0 f1 f2 f3 : Value) (w : World), (Instr.index 148 (.agg #[f0, f1, f2, f3]) (.int .i64 2)).run Tryd.prog w = .ok f2 w := fun _ _ _ _ _ => by kernel_rfl
 have i3 : ∀ (f0 f1 f2 f3 : Value) (w : World), (Instr.index 148 (.agg #[f0, f1, f2, f3]) (.int .i64 3)).run Tryd.prog w = .ok f3 w := fun _ _ _ _ _ => by kernel_rfl
 go_enter Tryd.func44, Tryd.ntmps44
 go_wp2
 refine wp_loop_rounds 5 ?_
 rw [rounds_succ]
 by_cases h0 : mr = 0
 ·
  have m0 : (mr != 0) = false := by simp [h0]
  go_wp2_with (go_at_call 83; refine (verify_asked_root.calls kr r.f0 r.f1.f0 r.f1.f1 r.f2 e.f0.f0 e.f0.f1 e.f0.f2 e.f0.f3.f0 e.f0.f3.f1 e.f1.f0 A c e.f1.f1 mr _ (Kd.C_below HR.out (by repeat (first | exact Below.refl _ _ | apply below_alloc))) HC.out HRo.out).mono ?_; rintro x w1 ⟨rfl, hb1⟩)
  have HB1 : Aside0 (Below w.heap.size w w1) := ⟨Below.trans (by repeat (first | exact Below.refl _ _ | apply below_alloc)) (hb1.mono (Below.size (by repeat (first | exact Below.refl _ _ | apply below_alloc))))⟩
  clear hb1
  go_wp2
  rw [rounds_succ]
  by_cases h1 : mayLeafI e.f0 = true
  ·
   have m1 : ((if mayLeafI e.f0 = true then (0 : Int) else 130) != 0) = false := by rw [if_pos h1]; rfl
   go_wp2_with (go_at_call 84; refine (verify_asked_leaf.calls r.f0 r.f1.f0 r.f1.f1 r.f2 e.f0.f0 e.f0.f1 e.f0.f2 e.f0.f3.f0 e.f0.f3.f1 e.f1.f0 A c e.f1.f1 _ _ (HK.out.below HB1.out) (Kd.C_below HR.out HB1.out) HC.out HLe.out).mono ?_; rintro x w2 ⟨rfl, hb2⟩)
   have HB2 : Aside0 (Below w.heap.size w w2) := ⟨HB1.out.trans (hb2.mono HB1.out.size)⟩
   clear hb2
   go_wp2
   rw [rounds_succ]
   by_cases h2 : sh = 0
   ·
    have m2 : (sh != 0) = false := by simp [h2]
    go_wp2_with (go_at_call 85; refine (verify_asked_shape.calls r.f0 r.f1.f0 r.f1.f1 r.f2 e.f0.f0 e.f0.f1 e.f0.f2 e.f0.f3.f0 e.f0.f3.f1 e.f1.f0 A c e.f1.f1 _ _ (Kd.C_below HR.out HB2.out) HC.out HSh.out).mono ?_; rintro x w3 ⟨rfl, hb3⟩)
    have HB3 : Aside0 (Below w.heap.size w w3) := ⟨HB2.out.trans (hb3.mono HB2.out.size)⟩
    clear hb3
    go_wp2
    rw [rounds_succ]
    by_cases h3 : res = 0
    ·
     have m3 : (res != 0) = false := by simp [h3]
     go_wp2_with (go_at_call 86; refine (askClimb.calls r e A c _ (HK.out.below HB3.out) (Kd.C_below HR.out HB3.out) HC.out HE.out res HRes.out).mono ?_; rintro x w4 ⟨rfl, hb4⟩)
     have HB4 : Aside0 (Below w.heap.size w w4) := ⟨HB3.out.trans (hb4.mono HB3.out.size)⟩
     clear hb4
     go_wp2
     rw [rounds_succ]
     go_wp2
     go_ret
     exact ⟨by rw [HCk.out, if_pos h0, if_pos h1, if_pos h2, h3]; rfl, HB4.out⟩
    ·
     have m3 : (res != 0) = true := by simp [h3]
     go_wp2_with (go_at_call 86; refine (askClimb.calls r e A c _ (HK.out.below HB3.out) (Kd.C_below HR.out HB3.out) HC.out HE.out res HRes.out).mono ?_; rintro x w4 ⟨rfl, hb4⟩)
     have HB4 : Aside0 (Below w.heap.size w w4) := ⟨HB3.out.trans (hb4.mono HB3.out.size)⟩
     clear hb4
     go_wp2
     go_ret
     exact ⟨by rw [HCk.out, if_pos h0, if_pos h1, if_pos h2]; rfl, HB4.out⟩
   ·
    have m2 : (sh != 0) = true := by simp [h2]
    go_wp2_with (go_at_call 85; refine (verify_asked_shape.calls r.f0 r.f1.f0 r.f1.f1 r.f2 e.f0.f0 e.f0.f1 e.f0.f2 e.f0.f3.f0 e.f0.f3.f1 e.f1.f0 A c e.f1.f1 _ _ (Kd.C_below HR.out HB2.out) HC.out HSh.out).mono ?_; rintro x w3 ⟨rfl, hb3⟩)
    have HB3 : Aside0 (Below w.heap.size w w3) := ⟨HB2.out.trans (hb3.mono HB2.out.size)⟩
    clear hb3
    go_wp2
    go_ret
    exact ⟨by rw [HCk.out, if_pos h0, if_pos h1, if_neg h2]; rfl, HB3.out⟩
  ·
   have m1 : ((if mayLeafI e.f0 = true then (0 : Int) else 130) != 0) = true := by rw [if_neg h1]; rfl
   go_wp2_with (go_at_call 84; refine (verify_asked_leaf.calls r.f0 r.f1.f0 r.f1.f1 r.f2 e.f0.f0 e.f0.f1 e.f0.f2 e.f0.f3.f0 e.f0.f3.f1 e.f1.f0 A c e.f1.f1 _ _ (HK.out.below HB1.out) (Kd.C_below HR.out HB1.out) HC.out HLe.out).mono ?_; rintro x w2 ⟨rfl, hb2⟩)
   have HB2 : Aside0 (Below w.heap.size w w2) := ⟨HB1.out.trans (hb2.mono HB1.out.size)⟩
   clear hb2
   go_wp2
   go_ret
   exact ⟨by rw [HCk.out, if_pos h0, if_neg h1]; rfl, HB2.out⟩
 ·
  have m0 : (mr != 0) = true := by simp [h0]
  go_wp2_with (go_at_call 83; refine (verify_asked_root.calls kr r.f0 r.f1.f0 r.f1.f1 r.f2 e.f0.f0 e.f0.f1 e.f0.f2 e.f0.f3.f0 e.f0.f3.f1 e.f1.f0 A c e.f1.f1 mr _ (Kd.C_below HR.out (by repeat (first | exact Below.refl _ _ | apply below_alloc))) HC.out HRo.out).mono ?_; rintro x w1 ⟨rfl, hb1⟩)
  have HB1 : Aside0 (Below w.heap.size w w1) := ⟨Below.trans (by repeat (first | exact Below.refl _ _ | apply below_alloc)) (hb1.mono (Below.size (by repeat (first | exact Below.refl _ _ | apply below_alloc))))⟩
  clear hb1
  go_wp2
  go_ret
  exact ⟨by rw [HCk.out, if_neg h0]; rfl, HB1.out⟩
def verify_Check.f (a0_0 : ByteArray) (a0_1 a0_2 a0_3 : Int) (a1_0 : Bool) (a1_1 a1_2 : ByteArray) (a1_3 a1_4 a1_5 : Int) (l : List SNode) : Option Int :=
 if (a1_1.size ≤ 1000000 ∧ a1_2.size ≤ 1000000 ∧ l.length ≤ 9223372036854775807) ∧ ((0 ≤ a1_3 ∧ a1_3 < 18446744073709551616) ∧ (0 ≤ a1_4 ∧ a1_4 < 18446744073709551616) ∧ (0 ≤ a1_5 ∧ a1_5 < 18446744073709551616)) ∧ ∀ x ∈ l, (0 ≤ x.f1.f0 ∧ x.f1.f0 < 18446744073709551616) ∧ (0 ≤ x.f1.f1 ∧ x.f1.f1 < 18446744073709551616) then some (checkI ⟨a0_0, ⟨a0_1, a0_2⟩, a0_3⟩ ⟨⟨a1_0, a1_1, a1_2, ⟨a1_3, a1_4⟩⟩, ⟨a1_5, l⟩⟩) else none
theorem verify_Check.calls (a0_0 : ByteArray) (a0_1 a0_2 a0_3 : Int) (a1_0 : Bool) (a1_1 a1_2 : ByteArray) (a1_3 a1_4 a1_5 : Int) (A : Option Addr) (c : Nat) (l : List SNode) (r : Int) (w : World) (hK : LaidT w) (hr : Kd.C kNode w A l.length l) (hc : l.length ≤ c) (h : verify_Check.f a0_0 a0_1 a0_2 a0_3 a1_0 a1_1 a1_2 a1_3 a1_4 a1_5 l = some r) :
  Calls Tryd.prog 44 #[.agg #[.string a0_0, .int .u64 a0_1, .int .u64 a0_2, .int .i64 a0_3], .agg #[.bool a1_0, .string a1_1, .string a1_2, .int .u64 a1_3, .int .u64 a1_4, .int .u64 a1_5, .slice A l.length c]] w fun e w' => e = .returned (.int .i64 r) ∧ Below w.heap.size w w' := by
 unfold verify_Check.f at h
 split at h
 ·
  rename_i hh
  obtain rfl := Option.some.inj h
  exact check.calls ⟨a0_0, ⟨a0_1, a0_2⟩, a0_3⟩ ⟨⟨a1_0, a1_1, a1_2, ⟨a1_3, a1_4⟩⟩, ⟨a1_5, l⟩⟩ A c w hK hr hc ⟨hh.1.1, hh.1.2.1, ⟨hh.2.1.1, hh.2.1.2.1⟩, hh.2.1.2.2, fun x hx => ⟨(hh.2.2 x hx).1, (hh.2.2 x hx).2⟩, hh.1.2.2⟩
 ·
  exact absurd h (by simp)
theorem verifyCheck_eq (r : SRoot) (e : SEntry) (h : OkE e) : verify_Check.f r.f0 r.f1.f0 r.f1.f1 r.f2 e.f0.f0 e.f0.f1 e.f0.f2 e.f0.f3.f0 e.f0.f3.f1 e.f1.f0 e.f1.f1 = some (checkI r e) := by
 unfold verify_Check.f
 rw [if_pos ⟨⟨h.id, h.sa, h.ls⟩, ⟨h.ub.h0, h.ub.h1, h.p⟩, fun x hx => ⟨(h.us x hx).h0, (h.us x hx).h1⟩⟩]
end Go.Proofs.YtfcodmdckcihmaaDoor.P
namespace Go.Proofs.YtfcodmdckcihmaaDoor.P
open Go.RowKit Go.Proofs.YtfcodmdckcihmaaDoorW.PrintWords Go.Proofs.YtfcodmdckcihmaaDoorW.PrintLast Go.Proofs.YtfcodmdckcihmaaDoorW.PrintMore
set_option linter.unusedVariables false
set_option linter.unusedSimpArgs false
set_option linter.unnecessarySimpa false
def aL : SLeaf := ⟨false, ⟨#[97]⟩, ⟨#[115]⟩, ⟨0, 9⟩⟩
def oL : SLeaf := ⟨false, ⟨#[97]⟩, ⟨#[115]⟩, ⟨0, 10⟩⟩
def zL : SLeaf := ⟨false, ⟨#[]⟩, ⟨#[]⟩, ⟨0, 0⟩⟩
theorem aL_may : mayLeafI aL = true := by decide +kernel
theorem oL_may : mayLeafI oL = true := by decide +kernel
theorem zL_may : mayLeafI zL = false := by decide +kernel
def hB : ByteArray := dgI 8 (leafTextI aL)
def oB : ByteArray := dgI 8 (leafTextI oL)
theorem hB_size : hB.size = 8 := dgI_size 8 _ (by decide) (by decide)
theorem oB_size : oB.size = 8 := dgI_size 8 _ (by decide) (by decide)
theorem aL_node : leafNodeI 8 aL = ⟨hB, ⟨0, 9⟩⟩ := by unfold leafNodeI; rw [if_pos ⟨by decide, aL_may⟩]; rfl
theorem oL_node : leafNodeI 8 oL = ⟨oB, ⟨0, 10⟩⟩ := by unfold leafNodeI; rw [if_pos ⟨by decide, oL_may⟩]; rfl
theorem of8 (b : ByteArray) (h : b.size = 8) (u : SU128) : nodeOf 8 ⟨b, u⟩ = true := by unfold nodeOf; rw [h]; rfl
theorem climb0 (b : ByteArray) (h : b.size = 8) (u : SU128) : climbI 8 ⟨b, u⟩ 0 [] = (b, u.f0, u.f1, 0) := by
 unfold climbI; rw [if_pos ⟨of8 b h u, rfl⟩, if_neg (by decide)]; rfl
theorem shape0 : shapeN 8 0 0 [] = 0 := by decide
abbrev aE : SEntry := ⟨aL, ⟨0, []⟩⟩
abbrev oE : SEntry := ⟨oL, ⟨0, []⟩⟩
abbrev zE : SEntry := ⟨zL, ⟨0, []⟩⟩
abbrev aR : SRoot := ⟨hB, ⟨0, 9⟩, 0⟩
abbrev hR : SRoot := ⟨hB, ⟨0, 9⟩, 64⟩
theorem hB_int : ((aR.f0.size : Nat) : Int) = 8 := by show ((hB.size : Nat) : Int) = 8; rw [hB_size]; rfl
theorem aR_may : mayRI aR = 0 := by unfold mayRI; rw [hB_int]; decide
theorem aw_ok : checkI aR aE = 0 := by
 unfold checkI
 rw [if_pos aR_may, if_pos aL_may, hB_int]
 have hc : climbE 8 aE = (hB, 0, 9, 0) := by unfold climbE; rw [aL_node]; exact climb0 hB hB_size _
 rw [if_pos shape0, hc, if_pos rfl, if_pos ⟨rfl, rfl, rfl⟩]
theorem aw_other : checkI aR oE = 160 := by
 unfold checkI
 rw [if_pos aR_may, if_pos oL_may, hB_int]
 have hc : climbE 8 oE = (oB, 0, 10, 0) := by unfold climbE; rw [oL_node]; exact climb0 oB oB_size _
 rw [if_pos shape0, hc, if_pos rfl, if_neg (fun h => absurd h.2.2 (by decide))]
theorem aw_high : checkI hR aE = 120 := by
 have hm : mayRI hR = 120 := by unfold mayRI; rw [if_pos (.inr (by decide))]
 unfold checkI; rw [hm, if_neg (by decide)]
theorem aw_none : checkI aR zE = 130 := by
 unfold checkI
 rw [if_pos aR_may, if_neg (by rw [zL_may]; decide)]
theorem aw_up : upI 8 aE = (hB, 0, 9, 0, 0) := by
 have hc : climbE 8 aE = (hB, 0, 9, 0) := by unfold climbE; rw [aL_node]; exact climb0 hB hB_size _
 have hs : shapeN 8 ((aE.f1.f1.length : Nat) : Int) aE.f1.f0 aE.f1.f1 = 0 := shape0
 unfold upI
 rw [if_pos aL_may, if_pos hs, hc, if_pos rfl]; rfl
set_option maxRecDepth 100000 in
set_option maxHeartbeats 4000000 in
theorem awake17.calls (w : World) (hK : LaidT w) : Calls Tryd.prog 42 #[] w fun e w' => e = .returned (.bool true) ∧ Below w.heap.size w w' := by
 have HK := aM' hK
 obtain ⟨k1, hk1⟩ := tagLeafNode_ev 8 aL (by decide) (by decide)
 rw [aL_node] at hk1
 have J1 := aM' (hk1 k1 (Nat.le_refl _))
 have C1 := aM' (show verify_Check.f hB 0 9 0 false ⟨#[97]⟩ ⟨#[115]⟩ 0 9 0 [] = some 0 by unfold verify_Check.f; rw [if_pos (by decide)]; exact congrArg some aw_ok)
 have C2 := aM' (show verify_Check.f hB 0 9 0 false ⟨#[97]⟩ ⟨#[115]⟩ 0 10 0 [] = some 160 by unfold verify_Check.f; rw [if_pos (by decide)]; exact congrArg some aw_other)
 have C3 := aM' (show verify_Check.f hB 0 9 64 false ⟨#[97]⟩ ⟨#[115]⟩ 0 9 0 [] = some 120 by unfold verify_Check.f; rw [if_pos (by decide)]; exact congrArg some aw_high)
 have C4 := aM' (show verify_Check.f hB 0 9 0 false ⟨#[]⟩ ⟨#[]⟩ 0 0 0 [] = some 130 by unfold verify_Check.f; rw [if_pos (by decide)]; exact congrArg some aw_none)
 have U1 := aM' (show verify_Up.f 8 false ⟨#[97]⟩ ⟨#[115]⟩ 0 9 0 [] = some (hB, 0, 9, 0, 0) by unfold verify_Up.f; rw [if_pos (by decide)]; exact congrArg some aw_up)
 clear hK hk1
 go_enter Tryd.func42, Tryd.ntmps42
 have HB0 := aM' (Below.refl w.heap.size w)
 go_upto_region 2 with (fail)
 obtain ⟨W1, hW⟩ : ∃ V, V = w.alloc (.cells #[.bool false, .string ⟨#[97]⟩, .string ⟨#[115]⟩, .int .u64 0, .int .u64 9] 36) := ⟨_, rfl⟩
 rw [← hW]
 have hg : Below w.heap.size w W1 := by rw [hW]; exact below_alloc (Below.refl _ _) _
 have hBn := HB0.out.trans (hg.mono HB0.out.size)
 have hb1 : W1.heap[w.heap.size]? = some (.cells #[.bool false, .string ⟨#[97]⟩, .string ⟨#[115]⟩, .int .u64 0, .int .u64 9] 36 (0, 0)) := by rw [hW]; exact blk_new _ _
 generalize w.heap.size = b1 at hb1 ⊢
 clear hg hW
 have Hb1 := aM' hb1
 clear hb1
 have HB1 := aM' hBn
 clear hBn HB0
 have x0 : W1.cell? ⟨b1, 0, none⟩ = some (.bool false) := blk_cell Hb1.out 0
 have x1 : W1.cell? ⟨b1, 1, none⟩ = some (.string ⟨#[97]⟩) := blk_cell Hb1.out 1
 have x2 : W1.cell? ⟨b1, 2, none⟩ = some (.string ⟨#[115]⟩) := blk_cell Hb1.out 2
 have x3 : W1.cell? ⟨b1, 3, none⟩ = some (.int .u64 0) := blk_cell Hb1.out 3
 have x4 : W1.cell? ⟨b1, 4, none⟩ = some (.int .u64 9) := blk_cell Hb1.out 4
 go_wp2_with fail
 refine (tag_LeafNode.calls k1 8 false ⟨#[97]⟩ ⟨#[115]⟩ 0 9 hB 0 9 _ (HK.out.below HB1.out) J1.out).mono ?_
 rintro e v ⟨rfl, hb⟩
 clear x0 x1 x2 x3 x4
 go_upto_region 3 with (fail)
 obtain ⟨W2, hW⟩ : ∃ V, V = v.alloc (.cells #[.string hB, .int .u64 0, .int .u64 9] 46) := ⟨_, rfl⟩
 rw [← hW]
 have hg : Below W1.heap.size W1 W2 := by rw [hW]; exact (Below.trans hb (below_alloc (Below.refl _ _) _ |>.mono hb.size))
 have hBn := HB1.out.trans (hg.mono HB1.out.size)
 have hb1 := blk_below Hb1.out hg
 have hb2 : W2.heap[v.heap.size]? = some (.cells #[.string hB, .int .u64 0, .int .u64 9] 46 (0, 0)) := by rw [hW]; exact blk_new _ _
 generalize v.heap.size = b2 at hb2 ⊢
 clear hg hW
 clear Hb1
 have Hb1 := aM' hb1
 clear hb1
 have Hb2 := aM' hb2
 clear hb2
 have HB2 := aM' hBn
 clear hBn HB1
 clear hb v
 have x0 : W2.cell? ⟨b2, 0, none⟩ = some (.string hB) := blk_cell Hb2.out 0
 have x1 : W2.cell? ⟨b2, 1, none⟩ = some (.int .u64 0) := blk_cell Hb2.out 1
 have x2 : W2.cell? ⟨b2, 2, none⟩ = some (.int .u64 9) := blk_cell Hb2.out 2
 go_upto_region 4 with (fail)
 obtain ⟨W3, hW⟩ : ∃ V, V = W2.alloc (.cells #[.string hB, .int .u64 0, .int .u64 9, .int .i64 0] 41) := ⟨_, rfl⟩
 rw [← hW]
 have hg : Below W2.heap.size W2 W3 := by rw [hW]; exact below_alloc (Below.refl _ _) _
 have hBn := HB2.out.trans (hg.mono HB2.out.size)
 have hb1 := blk_below Hb1.out hg
 have hb2 := blk_below Hb2.out hg
 have hb3 : W3.heap[W2.heap.size]? = some (.cells #[.string hB, .int .u64 0, .int .u64 9, .int .i64 0] 41 (0, 0)) := by rw [hW]; exact blk_new _ _
 generalize W2.heap.size = b3 at hb3 ⊢
 clear hg hW
 clear Hb1
 clear Hb2
 have Hb1 := aM' hb1
 clear hb1
 have Hb2 := aM' hb2
 clear hb2
 have Hb3 := aM' hb3
 clear hb3
 have HB3 := aM' hBn
 clear hBn HB2
 clear x0 x1 x2
 have x0 : W3.cell? ⟨b1, 0, none⟩ = some (.bool false) := blk_cell Hb1.out 0
 have x1 : W3.cell? ⟨b1, 1, none⟩ = some (.string ⟨#[97]⟩) := blk_cell Hb1.out 1
 have x2 : W3.cell? ⟨b1, 2, none⟩ = some (.string ⟨#[115]⟩) := blk_cell Hb1.out 2
 have x3 : W3.cell? ⟨b1, 3, none⟩ = some (.int .u64 0) := blk_cell Hb1.out 3
 have x4 : W3.cell? ⟨b1, 4, none⟩ = some (.int .u64 9) := blk_cell Hb1.out 4
 go_upto_region 5 with (fail)
 obtain ⟨W4, hW⟩ : ∃ V, V = W3.alloc (.cells #[.bool false, .string ⟨#[97]⟩, .string ⟨#[115]⟩, .int .u64 0, .int .u64 9, .int .u64 0, .slice none 0 0] 70) := ⟨_, rfl⟩
 rw [← hW]
 have hg : Below W3.heap.size W3 W4 := by rw [hW]; exact below_alloc (Below.refl _ _) _
 have hBn := HB3.out.trans (hg.mono HB3.out.size)
 have hb1 := blk_below Hb1.out hg
 have hb2 := blk_below Hb2.out hg
 have hb3 := blk_below Hb3.out hg
 have hb4 : W4.heap[W3.heap.size]? = some (.cells #[.bool false, .string ⟨#[97]⟩, .string ⟨#[115]⟩, .int .u64 0, .int .u64 9, .int .u64 0, .slice none 0 0] 70 (0, 0)) := by rw [hW]; exact blk_new _ _
 generalize W3.heap.size = b4 at hb4 ⊢
 clear hg hW
 clear Hb1
 clear Hb2
 clear Hb3
 have Hb1 := aM' hb1
 clear hb1
 have Hb2 := aM' hb2
 clear hb2
 have Hb3 := aM' hb3
 clear hb3
 have Hb4 := aM' hb4
 clear hb4
 have HB4 := aM' hBn
 clear hBn HB3
 clear x0 x1 x2 x3 x4
 have x0 : W4.cell? ⟨b4, 0, none⟩ = some (.bool false) := blk_cell Hb4.out 0
 have x1 : W4.cell? ⟨b4, 1, none⟩ = some (.string ⟨#[97]⟩) := blk_cell Hb4.out 1
 have x2 : W4.cell? ⟨b4, 2, none⟩ = some (.string ⟨#[115]⟩) := blk_cell Hb4.out 2
 have x3 : W4.cell? ⟨b4, 3, none⟩ = some (.int .u64 0) := blk_cell Hb4.out 3
 have x4 : W4.cell? ⟨b4, 4, none⟩ = some (.int .u64 9) := blk_cell Hb4.out 4
 have x5 : W4.cell? ⟨b4, 5, none⟩ = some (.int .u64 0) := blk_cell Hb4.out 5
 have x6 : W4.cell? ⟨b4, 6, none⟩ = some (.slice none 0 0) := blk_cell Hb4.out 6
 go_upto_region 6 with (fail)
 obtain ⟨W5, hW⟩ : ∃ V, V = W4.alloc (.cells #[.bool false, .string ⟨#[97]⟩, .string ⟨#[115]⟩, .int .u64 0, .int .u64 9, .int .u64 0, .slice none 0 0] 70) := ⟨_, rfl⟩
 rw [← hW]
 have hg : Below W4.heap.size W4 W5 := by rw [hW]; exact below_alloc (Below.refl _ _) _
 have hBn := HB4.out.trans (hg.mono HB4.out.size)
 have hb1 := blk_below Hb1.out hg
 have hb2 := blk_below Hb2.out hg
 have hb3 := blk_below Hb3.out hg
 have hb4 := blk_below Hb4.out hg
 have hb5 : W5.heap[W4.heap.size]? = some (.cells #[.bool false, .string ⟨#[97]⟩, .string ⟨#[115]⟩, .int .u64 0, .int .u64 9, .int .u64 0, .slice none 0 0] 70 (0, 0)) := by rw [hW]; exact blk_new _ _
 have nb5 : w.heap.size ≤ W4.heap.size := HB4.out.size
 have nb5_b1 : b1 ≠ W4.heap.size := Nat.ne_of_lt (blk_lt Hb1.out)
 have nb5_b2 : b2 ≠ W4.heap.size := Nat.ne_of_lt (blk_lt Hb2.out)
 have nb5_b3 : b3 ≠ W4.heap.size := Nat.ne_of_lt (blk_lt Hb3.out)
 have nb5_b4 : b4 ≠ W4.heap.size := Nat.ne_of_lt (blk_lt Hb4.out)
 generalize W4.heap.size = b5 at hb5 nb5 nb5_b1 nb5_b2 nb5_b3 nb5_b4 ⊢
 have Nb5 := aM' (And.intro nb5 trivial)
 clear nb5
 have Nb5_b1 := aM' nb5_b1
 clear nb5_b1
 have Nb5_b2 := aM' nb5_b2
 clear nb5_b2
 have Nb5_b3 := aM' nb5_b3
 clear nb5_b3
 have Nb5_b4 := aM' nb5_b4
 clear nb5_b4
 clear hg hW
 clear Hb1
 clear Hb2
 clear Hb3
 clear Hb4
 have Hb1 := aM' hb1
 clear hb1
 have Hb2 := aM' hb2
 clear hb2
 have Hb3 := aM' hb3
 clear hb3
 have Hb4 := aM' hb4
 clear hb4
 have Hb5 := aM' hb5
 clear hb5
 have HB5 := aM' hBn
 clear hBn HB4
 clear x0 x1 x2 x3 x4 x5 x6
 have x : W5.cell? ⟨b5, 4, none⟩ = some (.int .u64 9) := blk_cell Hb5.out 4
 have xf : ∀ i, W5.frozen? ⟨b5, i, none⟩ = false := fun i => blk_frozen Hb5.out i
 go_upto_region 7 with (fail)
 clear x xf
 obtain ⟨W6, hW⟩ : ∃ V, V = W5.setCell ⟨b5, 4, none⟩ (.int .u64 10) := ⟨_, rfl⟩
 rw [← hW]
 have hBn : Below w.heap.size w W6 := by rw [hW]; exact below_set HB5.out Nb5.out.1
 have hb1 : W6.heap[b1]? = some (.cells #[.bool false, .string ⟨#[97]⟩, .string ⟨#[115]⟩, .int .u64 0, .int .u64 9] 36 (0, 0)) := by rw [hW]; exact blk_far Hb1.out Nb5_b1.out _
 have hb2 : W6.heap[b2]? = some (.cells #[.string hB, .int .u64 0, .int .u64 9] 46 (0, 0)) := by rw [hW]; exact blk_far Hb2.out Nb5_b2.out _
 have hb3 : W6.heap[b3]? = some (.cells #[.string hB, .int .u64 0, .int .u64 9, .int .i64 0] 41 (0, 0)) := by rw [hW]; exact blk_far Hb3.out Nb5_b3.out _
 have hb4 : W6.heap[b4]? = some (.cells #[.bool false, .string ⟨#[97]⟩, .string ⟨#[115]⟩, .int .u64 0, .int .u64 9, .int .u64 0, .slice none 0 0] 70 (0, 0)) := by rw [hW]; exact blk_far Hb4.out Nb5_b4.out _
 have hb5 : W6.heap[b5]? = some (.cells #[.bool false, .string ⟨#[97]⟩, .string ⟨#[115]⟩, .int .u64 0, .int .u64 10, .int .u64 0, .slice none 0 0] 70 (0, 0)) := by rw [hW]; exact blk_put (cs' := #[.bool false, .string ⟨#[97]⟩, .string ⟨#[115]⟩, .int .u64 0, .int .u64 10, .int .u64 0, .slice none 0 0]) Hb5.out 4 _ rfl
 clear hW
 clear Hb1
 clear Hb2
 clear Hb3
 clear Hb4
 clear Hb5
 have Hb1 := aM' hb1
 clear hb1
 have Hb2 := aM' hb2
 clear hb2
 have Hb3 := aM' hb3
 clear hb3
 have Hb4 := aM' hb4
 clear hb4
 have Hb5 := aM' hb5
 clear hb5
 have HB6 := aM' hBn
 clear hBn HB5
 have x0 : W6.cell? ⟨b3, 0, none⟩ = some (.string hB) := blk_cell Hb3.out 0
 have x1 : W6.cell? ⟨b3, 1, none⟩ = some (.int .u64 0) := blk_cell Hb3.out 1
 have x2 : W6.cell? ⟨b3, 2, none⟩ = some (.int .u64 9) := blk_cell Hb3.out 2
 have x3 : W6.cell? ⟨b3, 3, none⟩ = some (.int .i64 0) := blk_cell Hb3.out 3
 go_upto_region 8 with (fail)
 obtain ⟨W7, hW⟩ : ∃ V, V = W6.alloc (.cells #[.string hB, .int .u64 0, .int .u64 9, .int .i64 0] 41) := ⟨_, rfl⟩
 rw [← hW]
 have hg : Below W6.heap.size W6 W7 := by rw [hW]; exact below_alloc (Below.refl _ _) _
 have hBn := HB6.out.trans (hg.mono HB6.out.size)
 have hb1 := blk_below Hb1.out hg
 have hb2 := blk_below Hb2.out hg
 have hb3 := blk_below Hb3.out hg
 have hb4 := blk_below Hb4.out hg
 have hb5 := blk_below Hb5.out hg
 have hb6 : W7.heap[W6.heap.size]? = some (.cells #[.string hB, .int .u64 0, .int .u64 9, .int .i64 0] 41 (0, 0)) := by rw [hW]; exact blk_new _ _
 have nb6 : w.heap.size ≤ W6.heap.size := HB6.out.size
 have nb6_b1 : b1 ≠ W6.heap.size := Nat.ne_of_lt (blk_lt Hb1.out)
 have nb6_b2 : b2 ≠ W6.heap.size := Nat.ne_of_lt (blk_lt Hb2.out)
 have nb6_b3 : b3 ≠ W6.heap.size := Nat.ne_of_lt (blk_lt Hb3.out)
 have nb6_b4 : b4 ≠ W6.heap.size := Nat.ne_of_lt (blk_lt Hb4.out)
 have nb6_b5 : b5 ≠ W6.heap.size := Nat.ne_of_lt (blk_lt Hb5.out)
 generalize W6.heap.size = b6 at hb6 nb6 nb6_b1 nb6_b2 nb6_b3 nb6_b4 nb6_b5 ⊢
 have Nb6 := aM' (And.intro nb6 trivial)
 clear nb6
 have Nb6_b1 := aM' nb6_b1
 clear nb6_b1
 have Nb6_b2 := aM' nb6_b2
 clear nb6_b2
 have Nb6_b3 := aM' nb6_b3
 clear nb6_b3
 have Nb6_b4 := aM' nb6_b4
 clear nb6_b4
 have Nb6_b5 := aM' nb6_b5
 clear nb6_b5
 clear hg hW
 clear Hb1
 clear Hb2
 clear Hb3
 clear Hb4
 clear Hb5
 have Hb1 := aM' hb1
 clear hb1
 have Hb2 := aM' hb2
 clear hb2
 have Hb3 := aM' hb3
 clear hb3
 have Hb4 := aM' hb4
 clear hb4
 have Hb5 := aM' hb5
 clear hb5
 have Hb6 := aM' hb6
 clear hb6
 have HB7 := aM' hBn
 clear hBn HB6
 clear x0 x1 x2 x3
 have x : W7.cell? ⟨b6, 3, none⟩ = some (.int .i64 0) := blk_cell Hb6.out 3
 have xf : ∀ i, W7.frozen? ⟨b6, i, none⟩ = false := fun i => blk_frozen Hb6.out i
 go_upto_region 9 with (fail)
 clear x xf
 obtain ⟨W8, hW⟩ : ∃ V, V = W7.setCell ⟨b6, 3, none⟩ (.int .i64 64) := ⟨_, rfl⟩
 rw [← hW]
 have hBn : Below w.heap.size w W8 := by rw [hW]; exact below_set HB7.out Nb6.out.1
 have hb1 : W8.heap[b1]? = some (.cells #[.bool false, .string ⟨#[97]⟩, .string ⟨#[115]⟩, .int .u64 0, .int .u64 9] 36 (0, 0)) := by rw [hW]; exact blk_far Hb1.out Nb6_b1.out _
 have hb2 : W8.heap[b2]? = some (.cells #[.string hB, .int .u64 0, .int .u64 9] 46 (0, 0)) := by rw [hW]; exact blk_far Hb2.out Nb6_b2.out _
 have hb3 : W8.heap[b3]? = some (.cells #[.string hB, .int .u64 0, .int .u64 9, .int .i64 0] 41 (0, 0)) := by rw [hW]; exact blk_far Hb3.out Nb6_b3.out _
 have hb4 : W8.heap[b4]? = some (.cells #[.bool false, .string ⟨#[97]⟩, .string ⟨#[115]⟩, .int .u64 0, .int .u64 9, .int .u64 0, .slice none 0 0] 70 (0, 0)) := by rw [hW]; exact blk_far Hb4.out Nb6_b4.out _
 have hb5 : W8.heap[b5]? = some (.cells #[.bool false, .string ⟨#[97]⟩, .string ⟨#[115]⟩, .int .u64 0, .int .u64 10, .int .u64 0, .slice none 0 0] 70 (0, 0)) := by rw [hW]; exact blk_far Hb5.out Nb6_b5.out _
 have hb6 : W8.heap[b6]? = some (.cells #[.string hB, .int .u64 0, .int .u64 9, .int .i64 64] 41 (0, 0)) := by rw [hW]; exact blk_put (cs' := #[.string hB, .int .u64 0, .int .u64 9, .int .i64 64]) Hb6.out 3 _ rfl
 clear hW
 clear Hb1
 clear Hb2
 clear Hb3
 clear Hb4
 clear Hb5
 clear Hb6
 have Hb1 := aM' hb1
 clear hb1
 have Hb2 := aM' hb2
 clear hb2
 have Hb3 := aM' hb3
 clear hb3
 have Hb4 := aM' hb4
 clear hb4
 have Hb5 := aM' hb5
 clear hb5
 have Hb6 := aM' hb6
 clear hb6
 have HB8 := aM' hBn
 clear hBn HB7
 have x0 : W8.cell? ⟨b4, 0, none⟩ = some (.bool false) := blk_cell Hb4.out 0
 have x1 : W8.cell? ⟨b4, 1, none⟩ = some (.string ⟨#[97]⟩) := blk_cell Hb4.out 1
 have x2 : W8.cell? ⟨b4, 2, none⟩ = some (.string ⟨#[115]⟩) := blk_cell Hb4.out 2
 have x3 : W8.cell? ⟨b4, 3, none⟩ = some (.int .u64 0) := blk_cell Hb4.out 3
 have x4 : W8.cell? ⟨b4, 4, none⟩ = some (.int .u64 9) := blk_cell Hb4.out 4
 have x5 : W8.cell? ⟨b4, 5, none⟩ = some (.int .u64 0) := blk_cell Hb4.out 5
 have x6 : W8.cell? ⟨b4, 6, none⟩ = some (.slice none 0 0) := blk_cell Hb4.out 6
 have Q := aM' (verify_Up.calls 8 false ⟨#[97]⟩ ⟨#[115]⟩ 0 9 0 none 0 [] hB 0 9 0 0 W8 (HK.out.below HB8.out) (Kd.C_nil _ _) (Nat.le_refl _) U1.out)
 go_wp2_with fail
 refine Q.out.mono ?_
 rintro e v ⟨rfl, hb⟩
 clear Q x0 x1 x2 x3 x4 x5 x6
 go_upto_region 10 with (fail)
 obtain ⟨W9, hW⟩ : ∃ V, V = v.alloc (.cells #[.string hB, .int .u64 0, .int .u64 9, .int .i64 0] 41) := ⟨_, rfl⟩
 rw [← hW]
 have hg : Below W8.heap.size W8 W9 := by rw [hW]; exact (Below.trans hb (below_alloc (Below.refl _ _) _ |>.mono hb.size))
 have hBn := HB8.out.trans (hg.mono HB8.out.size)
 have hb1 := blk_below Hb1.out hg
 have hb2 := blk_below Hb2.out hg
 have hb3 := blk_below Hb3.out hg
 have hb4 := blk_below Hb4.out hg
 have hb5 := blk_below Hb5.out hg
 have hb6 := blk_below Hb6.out hg
 have hb7 : W9.heap[v.heap.size]? = some (.cells #[.string hB, .int .u64 0, .int .u64 9, .int .i64 0] 41 (0, 0)) := by rw [hW]; exact blk_new _ _
 generalize v.heap.size = b7 at hb7 ⊢
 clear hg hW
 clear Hb1
 clear Hb2
 clear Hb3
 clear Hb4
 clear Hb5
 clear Hb6
 have Hb1 := aM' hb1
 clear hb1
 have Hb2 := aM' hb2
 clear hb2
 have Hb3 := aM' hb3
 clear hb3
 have Hb4 := aM' hb4
 clear hb4
 have Hb5 := aM' hb5
 clear hb5
 have Hb6 := aM' hb6
 clear hb6
 have Hb7 := aM' hb7
 clear hb7
 have HB9 := aM' hBn
 clear hBn HB8
 clear hb v
 have x0 : W9.cell? ⟨b3, 0, none⟩ = some (.string hB) := blk_cell Hb3.out 0
 have x1 : W9.cell? ⟨b3, 1, none⟩ = some (.int .u64 0) := blk_cell Hb3.out 1
 have x2 : W9.cell? ⟨b3, 2, none⟩ = some (.int .u64 9) := blk_cell Hb3.out 2
 have x3 : W9.cell? ⟨b3, 3, none⟩ = some (.int .i64 0) := blk_cell Hb3.out 3
 have y0 : W9.cell? ⟨b4, 0, none⟩ = some (.bool false) := blk_cell Hb4.out 0
 have y1 : W9.cell? ⟨b4, 1, none⟩ = some (.string ⟨#[97]⟩) := blk_cell Hb4.out 1
 have y2 : W9.cell? ⟨b4, 2, none⟩ = some (.string ⟨#[115]⟩) := blk_cell Hb4.out 2
 have y3 : W9.cell? ⟨b4, 3, none⟩ = some (.int .u64 0) := blk_cell Hb4.out 3
 have y4 : W9.cell? ⟨b4, 4, none⟩ = some (.int .u64 9) := blk_cell Hb4.out 4
 have y5 : W9.cell? ⟨b4, 5, none⟩ = some (.int .u64 0) := blk_cell Hb4.out 5
 have y6 : W9.cell? ⟨b4, 6, none⟩ = some (.slice none 0 0) := blk_cell Hb4.out 6
 have Q := aM' (verify_Check.calls hB 0 9 0 false ⟨#[97]⟩ ⟨#[115]⟩ 0 9 0 none 0 [] 0 W9 (HK.out.below HB9.out) (Kd.C_nil _ _) (Nat.le_refl _) C1.out)
 go_wp2_with fail
 refine Q.out.mono ?_
 rintro e V10 ⟨rfl, hb⟩
 have hBn := HB9.out.trans (hb.mono HB9.out.size)
 have hb1 := blk_below Hb1.out hb
 have hb2 := blk_below Hb2.out hb
 have hb3 := blk_below Hb3.out hb
 have hb4 := blk_below Hb4.out hb
 have hb5 := blk_below Hb5.out hb
 have hb6 := blk_below Hb6.out hb
 have hb7 := blk_below Hb7.out hb
 clear Q hb x0 x1 x2 x3 y0 y1 y2 y3 y4 y5 y6
 clear Hb1
 clear Hb2
 clear Hb3
 clear Hb4
 clear Hb5
 clear Hb6
 clear Hb7
 have Hb1 := aM' hb1
 clear hb1
 have Hb2 := aM' hb2
 clear hb2
 have Hb3 := aM' hb3
 clear hb3
 have Hb4 := aM' hb4
 clear hb4
 have Hb5 := aM' hb5
 clear hb5
 have Hb6 := aM' hb6
 clear hb6
 have Hb7 := aM' hb7
 clear hb7
 have HB10 := aM' hBn
 clear hBn HB9
 have x0 : V10.cell? ⟨b3, 0, none⟩ = some (.string hB) := blk_cell Hb3.out 0
 have x1 : V10.cell? ⟨b3, 1, none⟩ = some (.int .u64 0) := blk_cell Hb3.out 1
 have x2 : V10.cell? ⟨b3, 2, none⟩ = some (.int .u64 9) := blk_cell Hb3.out 2
 have x3 : V10.cell? ⟨b3, 3, none⟩ = some (.int .i64 0) := blk_cell Hb3.out 3
 have y0 : V10.cell? ⟨b5, 0, none⟩ = some (.bool false) := blk_cell Hb5.out 0
 have y1 : V10.cell? ⟨b5, 1, none⟩ = some (.string ⟨#[97]⟩) := blk_cell Hb5.out 1
 have y2 : V10.cell? ⟨b5, 2, none⟩ = some (.string ⟨#[115]⟩) := blk_cell Hb5.out 2
 have y3 : V10.cell? ⟨b5, 3, none⟩ = some (.int .u64 0) := blk_cell Hb5.out 3
 have y4 : V10.cell? ⟨b5, 4, none⟩ = some (.int .u64 10) := blk_cell Hb5.out 4
 have y5 : V10.cell? ⟨b5, 5, none⟩ = some (.int .u64 0) := blk_cell Hb5.out 5
 have y6 : V10.cell? ⟨b5, 6, none⟩ = some (.slice none 0 0) := blk_cell Hb5.out 6
 have Q := aM' (verify_Check.calls hB 0 9 0 false ⟨#[97]⟩ ⟨#[115]⟩ 0 10 0 none 0 [] 160 V10 (HK.out.below HB10.out) (Kd.C_nil _ _) (Nat.le_refl _) C2.out)
 go_wp2_with fail
 refine Q.out.mono ?_
 rintro e V11 ⟨rfl, hb⟩
 have hBn := HB10.out.trans (hb.mono HB10.out.size)
 have hb1 := blk_below Hb1.out hb
 have hb2 := blk_below Hb2.out hb
 have hb3 := blk_below Hb3.out hb
 have hb4 := blk_below Hb4.out hb
 have hb5 := blk_below Hb5.out hb
 have hb6 := blk_below Hb6.out hb
 have hb7 := blk_below Hb7.out hb
 clear Q hb x0 x1 x2 x3 y0 y1 y2 y3 y4 y5 y6
 clear Hb1
 clear Hb2
 clear Hb3
 clear Hb4
 clear Hb5
 clear Hb6
 clear Hb7
 have Hb1 := aM' hb1
 clear hb1
 have Hb2 := aM' hb2
 clear hb2
 have Hb3 := aM' hb3
 clear hb3
 have Hb4 := aM' hb4
 clear hb4
 have Hb5 := aM' hb5
 clear hb5
 have Hb6 := aM' hb6
 clear hb6
 have Hb7 := aM' hb7
 clear hb7
 have HB11 := aM' hBn
 clear hBn HB10
 have x0 : V11.cell? ⟨b6, 0, none⟩ = some (.string hB) := blk_cell Hb6.out 0
 have x1 : V11.cell? ⟨b6, 1, none⟩ = some (.int .u64 0) := blk_cell Hb6.out 1
 have x2 : V11.cell? ⟨b6, 2, none⟩ = some (.int .u64 9) := blk_cell Hb6.out 2
 have x3 : V11.cell? ⟨b6, 3, none⟩ = some (.int .i64 64) := blk_cell Hb6.out 3
 have y0 : V11.cell? ⟨b4, 0, none⟩ = some (.bool false) := blk_cell Hb4.out 0
 have y1 : V11.cell? ⟨b4, 1, none⟩ = some (.string ⟨#[97]⟩) := blk_cell Hb4.out 1
 have y2 : V11.cell? ⟨b4, 2, none⟩ = some (.string ⟨#[115]⟩) := blk_cell Hb4.out 2
 have y3 : V11.cell? ⟨b4, 3, none⟩ = some (.int .u64 0) := blk_cell Hb4.out 3
 have y4 : V11.cell? ⟨b4, 4, none⟩ = some (.int .u64 9) := blk_cell Hb4.out 4
 have y5 : V11.cell? ⟨b4, 5, none⟩ = some (.int .u64 0) := blk_cell Hb4.out 5
 have y6 : V11.cell? ⟨b4, 6, none⟩ = some (.slice none 0 0) := blk_cell Hb4.out 6
 have Q := aM' (verify_Check.calls hB 0 9 64 false ⟨#[97]⟩ ⟨#[115]⟩ 0 9 0 none 0 [] 120 V11 (HK.out.below HB11.out) (Kd.C_nil _ _) (Nat.le_refl _) C3.out)
 go_wp2_with fail
 refine Q.out.mono ?_
 rintro e V12 ⟨rfl, hb⟩
 have hBn := HB11.out.trans (hb.mono HB11.out.size)
 have hb1 := blk_below Hb1.out hb
 have hb2 := blk_below Hb2.out hb
 have hb3 := blk_below Hb3.out hb
 have hb4 := blk_below Hb4.out hb
 have hb5 := blk_below Hb5.out hb
 have hb6 := blk_below Hb6.out hb
 have hb7 := blk_below Hb7.out hb
 clear Q hb x0 x1 x2 x3 y0 y1 y2 y3 y4 y5 y6
 clear Hb1
 clear Hb2
 clear Hb3
 clear Hb4
 clear Hb5
 clear Hb6
 clear Hb7
 have Hb1 := aM' hb1
 clear hb1
 have Hb2 := aM' hb2
 clear hb2
 have Hb3 := aM' hb3
 clear hb3
 have Hb4 := aM' hb4
 clear hb4
 have Hb5 := aM' hb5
 clear hb5
 have Hb6 := aM' hb6
 clear hb6
 have Hb7 := aM' hb7
 clear hb7
 have HB12 := aM' hBn
 clear hBn HB11
 have x0 : V12.cell? ⟨b3, 0, none⟩ = some (.string hB) := blk_cell Hb3.out 0
 have x1 : V12.cell? ⟨b3, 1, none⟩ = some (.int .u64 0) := blk_cell Hb3.out 1
 have x2 : V12.cell? ⟨b3, 2, none⟩ = some (.int .u64 9) := blk_cell Hb3.out 2
 have x3 : V12.cell? ⟨b3, 3, none⟩ = some (.int .i64 0) := blk_cell Hb3.out 3
 have Q := aM' (verify_Check.calls hB 0 9 0 false ⟨#[]⟩ ⟨#[]⟩ 0 0 0 none 0 [] 130 V12 (HK.out.below HB12.out) (Kd.C_nil _ _) (Nat.le_refl _) C4.out)
 go_wp2_with fail
 refine Q.out.mono ?_
 rintro e V13 ⟨rfl, hb⟩
 have hBn := HB12.out.trans (hb.mono HB12.out.size)
 have hb1 := blk_below Hb1.out hb
 have hb2 := blk_below Hb2.out hb
 have hb3 := blk_below Hb3.out hb
 have hb4 := blk_below Hb4.out hb
 have hb5 := blk_below Hb5.out hb
 have hb6 := blk_below Hb6.out hb
 have hb7 := blk_below Hb7.out hb
 clear Q hb x0 x1 x2 x3
 clear Hb1
 clear Hb2
 clear Hb3
 clear Hb4
 clear Hb5
 clear Hb6
 clear Hb7
 have Hb1 := aM' hb1
 clear hb1
 have Hb2 := aM' hb2
 clear hb2
 have Hb3 := aM' hb3
 clear hb3
 have Hb4 := aM' hb4
 clear hb4
 have Hb5 := aM' hb5
 clear hb5
 have Hb6 := aM' hb6
 clear hb6
 have Hb7 := aM' hb7
 clear hb7
 have HB13 := aM' hBn
 clear hBn HB12
 have x0 : V13.cell? ⟨b7, 0, none⟩ = some (.string hB) := blk_cell Hb7.out 0
 have x1 : V13.cell? ⟨b7, 1, none⟩ = some (.int .u64 0) := blk_cell Hb7.out 1
 have x2 : V13.cell? ⟨b7, 2, none⟩ = some (.int .u64 9) := blk_cell Hb7.out 2
 have x3 : V13.cell? ⟨b7, 3, none⟩ = some (.int .i64 0) := blk_cell Hb7.out 3
 have y0 : V13.cell? ⟨b3, 0, none⟩ = some (.string hB) := blk_cell Hb3.out 0
 have y1 : V13.cell? ⟨b3, 1, none⟩ = some (.int .u64 0) := blk_cell Hb3.out 1
 have y2 : V13.cell? ⟨b3, 2, none⟩ = some (.int .u64 9) := blk_cell Hb3.out 2
 have y3 : V13.cell? ⟨b3, 3, none⟩ = some (.int .i64 0) := blk_cell Hb3.out 3
 go_wp2
 go_ret
 exact ⟨rfl, HB13.out⟩
end Go.Proofs.YtfcodmdckcihmaaDoor.P
namespace Go.Proofs.YtfcodmdckcihmaaDoor.P
open Go.RowKit Go.Proofs.YtfcodmdckcihmaaDoorW.PrintWords Go.Proofs.YtfcodmdckcihmaaDoorW.PrintLast Go.Proofs.YtfcodmdckcihmaaDoorW.PrintMore
set_option linter.unusedVariables false
set_option linter.unusedSimpArgs false
set_option linter.unnecessarySimpa false
theorem heqRoot (d : Nat) (w : World) (x0 y0 : ByteArray) (x1 y1 : Int) (x2 y2 : Int) (x3 y3 : Int) :
  (Op.equalIn (d + 3) 41 (.agg #[.string x0, .int .u64 x1, .int .u64 x2, .int .i64 x3]) (.agg #[.string y0, .int .u64 y1, .int .u64 y2, .int .i64 y3])).run Tryd.prog w = .ok (x0.toList == y0.toList && ((x1 == y1 && (x2 == y2)) && (x3 == y3))) w := by
 refine eqA_of Tryd.underlying41 (by kernel_rfl) ?_
 refine eqf_cons (by rfl) (by go_simp; rfl) (by go_simp; rfl) (by go_simp) ?_
 refine eqf_cons (by rfl) (by go_simp) (by go_simp) (eqAU128 (d + 0) w _ _ _ _) ?_
 exact eqf_last (by rfl) (by go_simp; rfl) (by go_simp; rfl) (by go_simp)
end Go.Proofs.YtfcodmdckcihmaaDoor.P
namespace Go.Proofs.YtfcodmdckcihmaaDoor.P
open Go.RowKit Go.Proofs.YtfcodmdckcihmaaDoorW.PrintWords Go.Proofs.YtfcodmdckcihmaaDoorW.PrintLast Go.Proofs.YtfcodmdckcihmaaDoorW.PrintMore
set_option linter.unusedVariables false
set_option linter.unusedSimpArgs false
set_option linter.unnecessarySimpa false
attribute [local go_sem high] eqANode heqRoot eqALeaf
theorem greatL_ok {l : List SLeaf} (h : greatL l = false) : l.length ≤ 70 ∧ ∀ x ∈ l, x.f1.size ≤ 200 ∧ x.f2.size ≤ 200 := by
 unfold greatL at h
 simp only [Bool.or_eq_false_iff, decide_eq_false_iff_not, List.any_eq_false] at h
 refine ⟨by omega, fun x hx => ?_⟩
 have := h.2 x hx
 simp at this
 omega
structure TB (w : World) (a ar : Nat) (wd : Int) (l : List SLeaf) (V : World) : Prop where
 t : TreeR a (treeT wd l) V
 r : RefT ar wd l V
 b : Below w.heap.size w V
theorem TB.below {w : World} {a ar : Nat} {wd : Int} {l : List SLeaf} {V V' : World} (h : TB w a ar wd l V) (hb : Below V.heap.size V V') : TB w a ar wd l V' := ⟨h.t.below hb, h.r.below hb, h.b.trans (hb.mono h.b.size)⟩
structure KB (w V0 : World) (g n : Nat) (V : World) : Prop where
 k : ∀ k, k ≠ g → V.heap[k]? = V0.heap[k]?
 c : ∃ cs, V.heap[g]? = some (.cells cs 36 (0, 0)) ∧ n * 5 ≤ cs.size
 b : Below w.heap.size w V
 s : V.heap.size = V0.heap.size
theorem KB.cell {w V0 V : World} {g n i : Nat} (h : KB w V0 g n V) (hi : i < n) : (∃ v, V.cell? ⟨g, i * 5 + 1, none⟩ = some v) ∧ V.frozen? ⟨g, i * 5 + 1, none⟩ = false := by
 obtain ⟨cs, h1, h2⟩ := h.c
 exact ⟨⟨cs[i * 5 + 1]'(by omega), by rw [blk_cell h1]; simp [show i * 5 + 1 < cs.size by omega]⟩, blk_frozen h1 _⟩
theorem KB.put {w V0 V : World} {g n i : Nat} (h : KB w V0 g n V) (hg : w.heap.size ≤ g) (v : Value) : KB w V0 g n (V.setCell ⟨g, i, none⟩ v) := by
 obtain ⟨cs, h1, h2⟩ := h.c
 exact ⟨fun k hk => (Below.heap_setCell _ _ _ _ hk).trans (h.k k hk), ⟨cs.setIfInBounds i v, blk_put h1 i v rfl, by simpa using h2⟩, below_set h.b hg, by simpa using h.s⟩
theorem KB.start {w V0 : World} {base g n cap : Nat} {xs : List SLeaf} (h : V0.ownsRow base 36 5 (.slice (some ⟨g, 0, none⟩) n cap) n (cellsL xs)) (hB : Below w.heap.size w V0) : KB w V0 g n V0 := by
 rcases h.2 with ⟨e, _⟩ | ⟨g', cap', cur, e, _, h2, h3, _, h5, _⟩
 ·
  cases e
 ·
  cases e
  exact ⟨fun _ _ => rfl, ⟨cur, h2, by rw [h5]; exact Nat.mul_le_mul_right 5 h3⟩, hB, rfl⟩
end Go.Proofs.YtfcodmdckcihmaaDoor.P
namespace Go.Proofs.YtfcodmdckcihmaaDoor.P
open Go.RowKit Go.Proofs.YtfcodmdckcihmaaDoorW.PrintWords Go.Proofs.YtfcodmdckcihmaaDoorW.PrintLast Go.Proofs.YtfcodmdckcihmaaDoorW.PrintMore
set_option linter.unusedVariables false
set_option linter.unusedSimpArgs false
set_option linter.unnecessarySimpa false
attribute [local go_sem high] eqANode heqRoot eqALeaf
structure LeafC (V : World) (ap : Addr) (y : SLeaf) : Prop where
 p0 : V.cell? ap = some (.bool y.f0)
 p1 : V.cell? ⟨ap.block, ap.off + 1, none⟩ = some (.string y.f1)
 p2 : V.cell? ⟨ap.block, ap.off + 2, none⟩ = some (.string y.f2)
 p3 : V.cell? ⟨ap.block, ap.off + 3, none⟩ = some (.int .u64 y.f3.f0)
 p4 : V.cell? ⟨ap.block, ap.off + 4, none⟩ = some (.int .u64 y.f3.f1)
theorem LeafC.below {V V' : World} {ap : Addr} {y : SLeaf} (h : LeafC V ap y) (hb : Below V.heap.size V V') : LeafC V' ap y := ⟨pw_cell_below hb h.p0, pw_cell_below hb h.p1, pw_cell_below hb h.p2, pw_cell_below hb h.p3, pw_cell_below hb h.p4⟩
structure At18 (w w' : World) (g12 g17 : Nat) (rt : SNode) (m : Int) (ap : Addr) (y : SLeaf) : Prop where
 b : Below w.heap.size w w'
 r : w'.heap[g12]? = some (.cells #[.string rt.f0, .int .u64 rt.f1.f0, .int .u64 rt.f1.f1, .int .i64 m] 41 (0, 0))
 k : w'.heap[g17]? = some (.cells #[.bool y.f0, .string y.f1, .string y.f2, .int .u64 y.f3.f0, .int .u64 y.f3.f1] 36 (0, 0))
 l : LeafC w' ap y
theorem At18.of {w W : World} {g12 g17 : Nat} {rt : SNode} {m : Int} {ap : Addr} {y : SLeaf} {C : Prop} (h : C ∧ At18 w W g12 g17 rt m ap y) : At18 w W g12 g17 rt m ap y := h.2
theorem At18.keep {w W w' : World} {g12 g17 : Nat} {rt : SNode} {m : Int} {ap : Addr} {y : SLeaf} (k : Below W.heap.size W w') (h : At18 w W g12 g17 rt m ap y) : At18 w w' g12 g17 rt m ap y := ⟨h.b.trans (k.mono h.b.size), blk_below h.r k, blk_below h.k k, h.l.below k⟩
theorem At18.cells {w w' : World} {g12 g17 : Nat} {rt : SNode} {m : Int} {ap : Addr} {y : SLeaf} (h : At18 w w' g12 g17 rt m ap y) : ((w'.cell? ⟨g12, 0, none⟩ = some (.string rt.f0) ∧ w'.cell? ⟨g12, 1, none⟩ = some (.int .u64 rt.f1.f0) ∧ w'.cell? ⟨g12, 2, none⟩ = some (.int .u64 rt.f1.f1) ∧ w'.cell? ⟨g12, 3, none⟩ = some (.int .i64 m)) ∧ (w'.cell? ⟨g17, 0, none⟩ = some (.bool y.f0) ∧ w'.cell? ⟨g17, 1, none⟩ = some (.string y.f1) ∧ w'.cell? ⟨g17, 2, none⟩ = some (.string y.f2) ∧ w'.cell? ⟨g17, 3, none⟩ = some (.int .u64 y.f3.f0) ∧ w'.cell? ⟨g17, 4, none⟩ = some (.int .u64 y.f3.f1)) ∧ (w'.cell? ap = some (.bool y.f0) ∧ w'.cell? ⟨ap.block, ap.off + 1, none⟩ = some (.string y.f1) ∧ w'.cell? ⟨ap.block, ap.off + 2, none⟩ = some (.string y.f2) ∧ w'.cell? ⟨ap.block, ap.off + 3, none⟩ = some (.int .u64 y.f3.f0) ∧ w'.cell? ⟨ap.block, ap.off + 4, none⟩ = some (.int .u64 y.f3.f1))) ∧ At18 w w' g12 g17 rt m ap y :=
 ⟨⟨⟨(blk_cell h.r 0).trans rfl, (blk_cell h.r 1).trans rfl, (blk_cell h.r 2).trans rfl, (blk_cell h.r 3).trans rfl⟩, ⟨(blk_cell h.k 0).trans rfl, (blk_cell h.k 1).trans rfl, (blk_cell h.k 2).trans rfl, (blk_cell h.k 3).trans rfl, (blk_cell h.k 4).trans rfl⟩, ⟨h.l.p0, h.l.p1, h.l.p2, h.l.p3, h.l.p4⟩⟩, h⟩
structure At28 (w w' : World) (g12 : Nat) (rt : SNode) (m : Int) (ap : Addr) (y : SLeaf) : Prop where
 b : Below w.heap.size w w'
 r : w'.heap[g12]? = some (.cells #[.string rt.f0, .int .u64 rt.f1.f0, .int .u64 rt.f1.f1, .int .i64 m] 41 (0, 0))
 l : LeafC w' ap y
theorem At28.of {w W : World} {g12 : Nat} {rt : SNode} {m : Int} {ap : Addr} {y : SLeaf} {C : Prop} (h : C ∧ At28 w W g12 rt m ap y) : At28 w W g12 rt m ap y := h.2
theorem At28.keep {w W w' : World} {g12 : Nat} {rt : SNode} {m : Int} {ap : Addr} {y : SLeaf} (k : Below W.heap.size W w') (h : At28 w W g12 rt m ap y) : At28 w w' g12 rt m ap y := ⟨h.b.trans (k.mono h.b.size), blk_below h.r k, h.l.below k⟩
theorem At28.cells {w w' : World} {g12 : Nat} {rt : SNode} {m : Int} {ap : Addr} {y : SLeaf} (h : At28 w w' g12 rt m ap y) : ((w'.cell? ⟨g12, 0, none⟩ = some (.string rt.f0) ∧ w'.cell? ⟨g12, 1, none⟩ = some (.int .u64 rt.f1.f0) ∧ w'.cell? ⟨g12, 2, none⟩ = some (.int .u64 rt.f1.f1) ∧ w'.cell? ⟨g12, 3, none⟩ = some (.int .i64 m)) ∧ (w'.cell? ap = some (.bool y.f0) ∧ w'.cell? ⟨ap.block, ap.off + 1, none⟩ = some (.string y.f1) ∧ w'.cell? ⟨ap.block, ap.off + 2, none⟩ = some (.string y.f2) ∧ w'.cell? ⟨ap.block, ap.off + 3, none⟩ = some (.int .u64 y.f3.f0) ∧ w'.cell? ⟨ap.block, ap.off + 4, none⟩ = some (.int .u64 y.f3.f1))) ∧ At28 w w' g12 rt m ap y :=
 ⟨⟨⟨(blk_cell h.r 0).trans rfl, (blk_cell h.r 1).trans rfl, (blk_cell h.r 2).trans rfl, (blk_cell h.r 3).trans rfl⟩, ⟨h.l.p0, h.l.p1, h.l.p2, h.l.p3, h.l.p4⟩⟩, h⟩
end Go.Proofs.YtfcodmdckcihmaaDoor.P
namespace Go.Proofs.YtfcodmdckcihmaaDoor.P
open Go.RowKit Go.Proofs.YtfcodmdckcihmaaDoorW.PrintWords Go.Proofs.YtfcodmdckcihmaaDoorW.PrintLast Go.Proofs.YtfcodmdckcihmaaDoorW.PrintMore
set_option linter.unusedVariables false
set_option linter.unusedSimpArgs false
set_option linter.unnecessarySimpa false
attribute [local go_sem] sel_true
theorem oneCellN : ∀ l, ∀ u ∈ cellsN l, u.oneCell' = true
 | [], u, h => by cases h
 | x :: l, u, h => by
  simp only [cellsN, List.mem_cons] at h
  rcases h with rfl | rfl | rfl | h
  ·
   rfl
  ·
   rfl
  ·
   rfl
  ·
   exact oneCellN l u h
theorem nodes_newsC {W : World} {ad : Addr} {l : List SNode} (h : Kd.C kNode W (some ad) l.length l) : ∀ j u, (cellsN l)[j]? = some u → W.cell? (ad.add j) = some u := by
 intro j u hu
 have hj : j < l.length * 3 := by
  have := (List.getElem?_eq_some_iff.1 hu).1
  rwa [cellsN_len] at this
 obtain ⟨k, i, rfl, hi⟩ : ∃ k i, j = k * 3 + i ∧ i < 3 := ⟨j / 3, j % 3, by omega, Nat.mod_lt _ (by decide)⟩
 have hk : k < l.length := by omega
 rw [cellsN_get l k i l[k] (List.getElem?_eq_getElem hk) hi] at hu
 obtain ⟨a1, e1, p0, p1, p2⟩ := at_TNode h (k : Int) (by omega) (by omega)
 cases e1
 have e3 : rd_TNode l (k : Int) = l[k] := by rw [rd_TNode, Int.toNat_natCast]; simp [List.getD_eq_getElem?_getD, hk]
 rw [e3, Int.toNat_natCast] at p0 p1 p2
 match i, hi with
 | 0, _ => simp at hu; rw [← hu]; exact p0
 | 1, _ => simp at hu; rw [← hu, add_field _ _ 1 (by omega)]; exact p1
 | 2, _ => simp at hu; rw [← hu, add_field _ _ 2 (by omega)]; exact p2
theorem TreeOwn.snoc {b bt gl cl g κ : Nat} {VV : Value} {gs : List RowG} {wd : Int} {lf : List SLeaf} {done : List (List SNode)} {W0 W : World} {p : RowG} {cur : List SNode} (h : TreeOwn b W0 bt ⟨wd, lf, done⟩ gl cl VV gs)
  (hk : ∀ k, k < W0.heap.size → VV.ownBlock ≠ some k → W.heap[k]? = W0.heap[k]?) (hc : W.ownsRow b 46 3 (rowV p cur) cur.length (cellsN cur)) (hp : W0.heap.size ≤ p.1)
  (hown : W.ownsRow b 109 2 (.slice (some ⟨g, 0, none⟩) (done.length + 1) κ) (done.length + 1) (cellsV 0 gs done ++ [rowV p cur, .int .i64 (done.length : Int)])) (hgg : VV.ownBlock = some g ∨ W0.heap.size ≤ g) :
  TreeOwn b (W.setCell ⟨bt, 2, none⟩ (.slice (some ⟨g, 0, none⟩) (done.length + 1) κ)) bt ⟨wd, lf, done ++ [cur]⟩ gl cl (.slice (some ⟨g, 0, none⟩) (done.length + 1) κ) (gs ++ [p]) := by
 have hs : ∀ k ∈ bt :: gl :: gs.map Prod.fst, k < W0.heap.size := by
  intro k hk
  rcases List.mem_cons.1 hk with rfl | hk
  ·
   exact blk_lt h.ht
  ·
   exact (h.lt k hk).2
 have hnot : ∀ k ∈ bt :: gl :: gs.map Prod.fst, VV.ownBlock ≠ some k := fun k hm e => h.av k e hm
 have hin : ∀ k ∈ bt :: gl :: gs.map Prod.fst, W.heap[k]? = W0.heap[k]? := fun k hm => hk k (hs k hm) (hnot k hm)
 have hset : ∀ k, k ≠ bt → (W.setCell ⟨bt, 2, none⟩ (.slice (some ⟨g, 0, none⟩) (done.length + 1) κ)).heap[k]? = W.heap[k]? := fun k hk => Below.heap_setCell _ _ _ _ hk
 have hpn : p.1 ∉ bt :: gl :: gs.map Prod.fst := fun hm => by have := hs _ hm; omega
 have hgp : g ≠ p.1 := fun e => by
  obtain ⟨c1, h1⟩ := own_cells hown (show (Value.slice (some ⟨g, 0, none⟩) (done.length + 1) κ).ownBlock = some g from rfl)
  obtain ⟨c2, h2⟩ := own_cells hc (show (rowV p cur).ownBlock = some p.1 from rfl)
  rw [e, h2] at h1
  simp only [Option.some.injEq, Obj.cells.injEq] at h1
  exact absurd h1.2.1 (by decide)
 have hgo : g ∉ bt :: gl :: gs.map Prod.fst := fun hm => by
  rcases hgg with h2 | h2
  ·
   exact hnot g hm h2
  ·
   have := hs g hm; omega
 have hgbt : g ≠ bt := fun e => hgo (by rw [e]; simp)
 have hpbt : p.1 ≠ bt := fun e => hpn (by rw [e]; simp)
 have hglbt : gl ≠ bt := fun e => by have := h.ap; rw [e] at this; simp at this
 have hgsbt : ∀ k ∈ gs.map Prod.fst, k ≠ bt := fun k hm e => by
  have := (List.nodup_cons.1 h.ap).1
  exact this (by rw [← e]; exact List.mem_cons_of_mem _ hm)
 have hlen := h.hg.len
 refine ⟨?_, ?_, ?_, ?_, ?_, ?_, h.lo⟩
 ·
  exact blk_put ((hin bt (by simp)).trans h.ht) 2 _ rfl
 ·
  exact own_keep (own_keep h.hl (hin gl (by simp))) (hset gl hglbt)
 ·
  show World.ownsRow _ b _ 2 _ (done ++ [cur]).length (cellsV 0 (gs ++ [p]) (done ++ [cur]))
  rw [List.length_append, List.length_singleton, cellsV_snoc p cur 0 gs done hlen, Nat.zero_add]
  exact own_keep hown (hset g hgbt)
 ·
  refine OwnRows.snoc (own_keep hc (hset _ hpbt)) ((h.hg.keep (fun k hm => hin k (by simp at hm ⊢; exact .inr (.inr hm)))).keep (fun k hm => hset k (hgsbt k hm)))
 ·
  simp only [List.map_append, List.map_cons, List.map_nil]
  rw [← List.cons_append, ← List.cons_append]
  exact List.nodup_append.2 ⟨h.ap, by simp, fun a ha b hb e => by
   obtain rfl := List.mem_singleton.1 hb
   exact hpn (e ▸ ha)⟩
 ·
  intro k hk2 hm
  obtain rfl : g = k := Option.some.inj hk2
  simp only [List.map_append, List.map_cons, List.map_nil, List.mem_cons, List.mem_append, List.not_mem_nil, or_false] at hm
  simp only [List.mem_cons, not_or] at hgo
  rcases hm with h1 | h1 | h1 | h1
  ·
   exact hgo.1 h1
  ·
   exact hgo.2.1 h1
  ·
   exact hgo.2.2 h1
  ·
   exact hgp h1
theorem below_grownB {b : Nat} {w X Y : World} {row : Option Nat} (h : Below b w X) (hb : b ≤ X.heap.size) (hg : X.grownBy Y row) (hr : ∀ r, row = some r → b ≤ r) : Below b w Y :=
 ⟨hg.os.trans h.os, hg.tape.trans h.tape, hg.output.trans h.output, Nat.le_trans h.size hg.size, fun i hi => (hg.block i (by omega) (fun e => by have := hr i e.symm; omega)).trans (h.block i hi)⟩
structure CpR (b : Nat) (W0 W : World) (wd : Int) (lf : List SLeaf) (bt gl cl : Nat) (VV : Value) (gs : List RowG) (done : List (List SNode)) (cur : List SNode) (l : Nat → Bool) (γc κc γ γ2 κ : Nat) : Prop where
 hA : l 14 = false → Below W0.heap.size W0 W
 hC : l 8 = true → W0.heap.size ≤ γc ∧ W.ownsRow b 46 3 (rowV (γc, κc) cur) cur.length (cellsN cur)
 hT : l 13 = true → l 14 = false → W.heap[γ]? = some (.cells #[rowV (γc, κc) cur, .int .i64 (done.length : Int)] 109 (0, 0))
 hP : l 14 = true → l 17 = false → (∀ k, k < W0.heap.size → VV.ownBlock ≠ some k → W.heap[k]? = W0.heap[k]?) ∧ W.ownsRow b 109 2 (.slice (some ⟨γ2, 0, none⟩) (done.length + 1) κ) (done.length + 1) (cellsV 0 gs done ++ [rowV (γc, κc) cur, .int .i64 (done.length : Int)]) ∧ (VV.ownBlock = some γ2 ∨ W0.heap.size ≤ γ2) ∧ Below b W0 W
 hQ : l 17 = true → TreeOwn b W bt ⟨wd, lf, done ++ [cur]⟩ gl cl (.slice (some ⟨γ2, 0, none⟩) (done.length + 1) κ) (gs ++ [(γc, κc)]) ∧ Below b W0 W
 o8 : l 8 = true → l 7 = true
 o9 : l 9 = true → l 8 = true
 o12 : l 12 = true → l 9 = true ∧ l 11 = true
 o13 : l 13 = true → l 12 = true
 o14 : l 14 = true → l 13 = true ∧ l 4 = true
 o17 : l 17 = true → l 14 = true
section
variable {b : Nat} {W0 W : World} {wd : Int} {lf : List SLeaf} {bt gl cl : Nat} {VV : Value} {gs : List RowG} {done : List (List SNode)} {cur : List SNode} {l : Nat → Bool} {γc κc γ γ2 κ : Nat}
theorem CpR.pure (h : CpR b W0 W wd lf bt gl cl VV gs done cur l γc κc γ γ2 κ) (i : Nat) (hi : i ≠ 8 ∧ i ≠ 13 ∧ i ≠ 14 ∧ i ≠ 17) (h9 : i = 9 → l 8 = true) (h12 : i = 12 → l 9 = true ∧ l 11 = true) : CpR b W0 W wd lf bt gl cl VV gs done cur (upd l i) γc κc γ γ2 κ := by
 have e8 : upd l i 8 = l 8 := upd_no (by omega)
 have e13 : upd l i 13 = l 13 := upd_no (by omega)
 have e14 : upd l i 14 = l 14 := upd_no (by omega)
 have e17 : upd l i 17 = l 17 := upd_no (by omega)
 refine ⟨by rw [e14]; exact h.hA, by rw [e8]; exact h.hC, by rw [e13, e14]; exact h.hT, by rw [e14, e17]; exact h.hP, by rw [e17]; exact h.hQ, ?_, ?_, ?_, ?_, ?_, ?_⟩
 ·
  rw [e8]; exact fun hx => upd_or.2 (.inr (h.o8 hx))
 ·
  intro hx
  rw [e8]
  rcases upd_or.1 hx with hx | hx
  ·
   exact h9 hx.symm
  ·
   exact h.o9 hx
 ·
  intro hx
  rcases upd_or.1 hx with hx | hx
  ·
   exact ⟨upd_or.2 (.inr (h12 hx.symm).1), upd_or.2 (.inr (h12 hx.symm).2)⟩
  ·
   exact ⟨upd_or.2 (.inr (h.o12 hx).1), upd_or.2 (.inr (h.o12 hx).2)⟩
 ·
  rw [e13]; exact fun hx => upd_or.2 (.inr (h.o13 hx))
 ·
  rw [e14, e13]; exact fun hx => ⟨(h.o14 hx).1, upd_or.2 (.inr (h.o14 hx).2)⟩
 ·
  rw [e17, e14]; exact h.o17
theorem CpR.no4 (h : CpR b W0 W wd lf bt gl cl VV gs done cur l γc κc γ γ2 κ) (hl : l 4 = false) : l 14 = false := by
 cases hx : l 14 with
 | false => rfl
 | true => rw [(h.o14 hx).2] at hl; cases hl
theorem CpR.no13 (h : CpR b W0 W wd lf bt gl cl VV gs done cur l γc κc γ γ2 κ) (hl : l 13 = false) : l 14 = false := by
 cases hx : l 14 with
 | false => rfl
 | true => rw [(h.o14 hx).1] at hl; cases hl
theorem CpR.no8 (h : CpR b W0 W wd lf bt gl cl VV gs done cur l γc κc γ γ2 κ) (hl : l 8 = false) : l 13 = false := by
 cases hx : l 13 with
 | false => rfl
 | true => rw [h.o9 (h.o12 (h.o13 hx)).1] at hl; cases hl
theorem CpR.no7 (h : CpR b W0 W wd lf bt gl cl VV gs done cur l γc κc γ γ2 κ) (hl : l 7 = false) : l 14 = false := by
 refine h.no13 (h.no8 ?_)
 cases hx : l 8 with
 | false => rfl
 | true => rw [h.o8 hx] at hl; cases hl
theorem CpR.no17 (h : CpR b W0 W wd lf bt gl cl VV gs done cur l γc κc γ γ2 κ) (hl : l 14 = false) : l 17 = false := by
 cases hx : l 17 with
 | false => rfl
 | true => rw [h.o17 hx] at hl; cases hl
theorem CpR.made (h : CpR b W0 W wd lf bt gl cl VV gs done cur l γc κc γ γ2 κ) (hl : l 13 = false) (h12 : l 12 = true) : CpR b W0 (W.alloc (.cells #[rowV (γc, κc) cur, .int .i64 (done.length : Int)] 109 (0, 0))) wd lf bt gl cl VV gs done cur (upd l 13) γc κc W.heap.size γ2 κ := by
 have h14 := h.no13 hl
 have h17 := h.no17 h14
 have e14 : upd l 13 14 = l 14 := rfl
 have e17 : upd l 13 17 = l 17 := rfl
 exact ⟨fun _ => below_alloc (h.hA h14) _, fun hx => ⟨(h.hC hx).1, ownB (h.hC hx).2 (below_alloc (Below.refl _ _) _)⟩, fun _ _ => blk_new W _, (fun hx => by rw [e14, h14] at hx; cases hx), (fun hx => by rw [e17, h17] at hx; cases hx), h.o8, h.o9, h.o12, fun _ => h12, (fun hx => by rw [e14, h14] at hx; cases hx), h.o17⟩
theorem CpR.appended {W' : World} {g κ' : Nat} (h : CpR b W0 W wd lf bt gl cl VV gs done cur l γc κc γ γ2 κ) (h0 : TreeOwn b W0 bt ⟨wd, lf, done⟩ gl cl VV gs) (hb0 : b ≤ W0.heap.size) (hl : l 14 = false) (h13 : l 13 = true) (h4 : l 4 = true) (hgr : W.grownBy W' VV.ownBlock)
  (hown : W'.ownsRow b 109 2 (.slice (some ⟨g, 0, none⟩) (done.length + 1) κ') (done.length + 1) (cellsV 0 gs done ++ [rowV (γc, κc) cur, .int .i64 (done.length : Int)])) (hgg : VV.ownBlock = some g ∨ g = W.heap.size) :
  CpR b W0 W' wd lf bt gl cl VV gs done cur (upd l 14) γc κc γ g κ' := by
 have h17 := h.no17 hl
 have hb := h.hA hl
 have h8 := h.o9 (h.o12 (h.o13 h13)).1
 obtain ⟨hc1, hc2⟩ := h.hC h8
 have e17 : upd l 14 17 = l 17 := rfl
 have e14 : upd l 14 14 = true := rfl
 have hsz := hb.size
 refine ⟨(fun hx => by rw [e14] at hx; cases hx), fun _ => ⟨hc1, ownAny_keep hc2 (fun k hk => ?_)⟩, (fun _ hx => by rw [e14] at hx; cases hx), fun _ _ => ⟨fun k hk hn => (hgr.block k (by omega) (fun e => hn e.symm)).trans (hb.block k hk), hown, ?_, ?_⟩, (fun hx => by rw [e17, h17] at hx; cases hx), h.o8, h.o9, h.o12, h.o13, fun _ => ⟨h13, h4⟩, fun _ => rfl⟩
 ·
  obtain rfl : γc = k := Option.some.inj hk
  obtain ⟨c1, h1⟩ := own_cells hc2 (show (rowV (γc, κc) cur).ownBlock = some γc from rfl)
  exact hgr.block _ (blk_lt h1) (fun e => by have := (h0.hv.lt γc e.symm).2; omega)
 ·
  rcases hgg with hx | hx
  ·
   exact .inl hx
  ·
   exact .inr (by omega)
 ·
  exact below_grownB (hb.mono hb0) (by omega) hgr (fun r e => (h0.hv.lt r e).1)
theorem CpR.stored (h : CpR b W0 W wd lf bt gl cl VV gs done cur l γc κc γ γ2 κ) (h0 : TreeOwn b W0 bt ⟨wd, lf, done⟩ gl cl VV gs) (hl : l 17 = false) (h14 : l 14 = true) :
  CpR b W0 (W.setCell ⟨bt, 2, none⟩ (.slice (some ⟨γ2, 0, none⟩) (done.length + 1) κ)) wd lf bt gl cl VV gs done cur (upd l 17) γc κc γ γ2 κ := by
 obtain ⟨p1, p2, p3, p4⟩ := h.hP h14 hl
 have h8 := h.o9 (h.o12 (h.o13 (h.o14 h14).1)).1
 obtain ⟨hc1, hc2⟩ := h.hC h8
 have e14 : upd l 17 14 = l 14 := rfl
 have e17 : upd l 17 17 = true := rfl
 have hbt := blk_lt h0.ht
 refine ⟨(fun hx => by rw [e14, h14] at hx; cases hx), fun _ => ⟨hc1, ownAny_keep hc2 (fun k hk => Below.heap_setCell _ _ _ _ ?_)⟩, (fun _ hx => by rw [e14, h14] at hx; cases hx), (fun _ hx => by rw [e17] at hx; cases hx), fun _ => ⟨h0.snoc p1 hc2 hc1 p2 p3, p4.setCell (by show b ≤ bt; exact h0.lo) _⟩, h.o8, h.o9, h.o12, h.o13, h.o14, fun _ => h14⟩
 obtain rfl : γc = k := Option.some.inj hk
 show γc ≠ bt
 omega
end
end Go.Proofs.YtfcodmdckcihmaaDoor.P
namespace Go.Proofs.YtfcodmdckcihmaaDoor.P
open Go.RowKit Go.Proofs.YtfcodmdckcihmaaDoorW.PrintWords Go.Proofs.YtfcodmdckcihmaaDoorW.PrintLast Go.Proofs.YtfcodmdckcihmaaDoorW.PrintMore
set_option linter.unusedVariables false
set_option linter.unusedSimpArgs false
set_option linter.unnecessarySimpa false
attribute [local go_sem high] eqANode heqRoot eqALeaf
attribute [local go_sem] sel_true
theorem run_copyN (A : Option Addr) (c : Nat) (l : List SNode) (W : World) (hr : Kd.C kNode W A l.length l) (hn : l.length ≤ 1024) :
  ∃ g cap W', (Builtin.append_ #[43, 43] 43 #[.slice (some ⟨W.heap.size, 0, none⟩) 0 0, .slice A l.length c]).run Tryd.prog (W.alloc (.cells #[] 46 (0, 0))) = .ok (.slice (some ⟨g, 0, none⟩) l.length cap) W' ∧ W'.ownsRow W.heap.size 46 3 (.slice (some ⟨g, 0, none⟩) l.length cap) l.length (cellsN l) ∧ Below W.heap.size W W' := by
 obtain ⟨i0, hi, hz0, hz1, hz2⟩ := info_parts nodeInfo
 have hu := Tryd.underlying43
 cases A with
 | some ad =>
  obtain ⟨v', w', h1, h2, h3, h4⟩ := run_append_own (P := Tryd.prog) (w := W.alloc (.cells #[] 46 (0, 0))) W.heap.size 43 43 46 i0 (.agg #[.string ⟨#[]⟩, .int .u64 0, .int .u64 0]) 3 32 hu hi hz0 hz1 hz2 rfl (by decide) _ 0 [] (World.ownsRow_made W #[] 0 (Nat.le_refl _) (by decide) rfl) ad l.length c (cellsN l) (cellsN_len l) (nodes_newsC (Kd.C_below hr (below_alloc (Below.refl _ _) _))) (oneCellN l) (by unfold maxLen; omega) (by omega) (by simp)
  rw [Nat.zero_add, List.nil_append] at h2
  have hne : v' ≠ .slice none 0 0 := fun e => by have := (h4.1 e).1; cases this
  rcases h2.2 with ⟨e, _⟩ | ⟨g, cap, cur, e, _⟩
  ·
   exact absurd e hne
  ·
   subst e
   refine ⟨g, cap, w', h1, h2, below_grown (below_alloc (Below.refl _ _) _) h3 (fun r e => ?_)⟩
   have := Option.some.inj e
   dsimp only at this
   omega
 | none =>
  have hl : l.length = 0 := by
   rcases Nat.eq_zero_or_pos l.length with h | h
   ·
    exact h
   ·
    obtain ⟨_, _, h3⟩ := hr
    obtain ⟨a, ha, _⟩ := h3 h
    cases ha
  obtain rfl : l = [] := List.eq_nil_of_length_eq_zero hl
  refine ⟨W.heap.size, 0, W.alloc (.cells #[] 46 (0, 0)), ?_, World.ownsRow_made W #[] 0 (Nat.le_refl _) (by decide) rfl, below_alloc (Below.refl _ _) _⟩
  simp [Builtin.append_, run_underlying hu, sizeOf, typeInfo, hi, Builtin.lenOf, Builtin.firstCells, loadCells, loadCellsFrom, storeCells]
theorem node_put {W : World} {b g m cm kk : Nat} {S : List SNode} (h : W.ownsRow b 46 3 (.slice (some ⟨g, 0, none⟩) m cm) m (cellsN S)) (hl : S.length = m) (hk : kk < m) (x : SNode) :
  (((W.setCell ⟨g, kk * 3, none⟩ (.string x.f0)).setCell ⟨g, kk * 3 + 1, none⟩ (.int .u64 x.f1.f0)).setCell ⟨g, kk * 3 + 2, none⟩ (.int .u64 x.f1.f1)).ownsRow b 46 3 (.slice (some ⟨g, 0, none⟩) m cm) m (cellsN (S.set kk x)) := by
 have q := own_put (own_put (own_put h (kk * 3) (.string x.f0)) (kk * 3 + 1) (.int .u64 x.f1.f0)) (kk * 3 + 2) (.int .u64 x.f1.f1)
 rw [cellsN_set x S kk (by omega)] at q
 exact q
theorem texts_small {wd : Int} {e : SEntry} {i : Nat} {s : ByteArray} (he : OkE e) (hu : UpOk wd e) (h : (textsE wd e)[i]? = some s) : s.size ≤ 100000000 := by
 obtain ⟨hw, kl, ks, h63, hroom⟩ := upOk_parts he hu
 unfold textsE at h
 cases i with
 | zero =>
  obtain rfl := Option.some.inj h
  have := leafTextI_size e.f0 he.id he.sa
  omega
 | succ i =>
  rw [List.getElem?_cons_succ] at h
  have hi : i < (turnsTo e.f1.f0 e.f1.f1 e.f1.f1.length).length := by
   have := (List.getElem?_eq_some_iff.1 h).1
   rwa [textsL_len] at this
  have hT := List.getElem?_eq_getElem hi
  rw [textsL_get _ _ _ _ _ hT] at h
  obtain rfl := Option.some.inj h
  have hkt := turnsTo_k (p := e.f1.f0) ks
  obtain ⟨k1, k2, -⟩ := climb_room kl hkt (by rw [totX_turns]; exact hroom) hT
  have h1 := (nodeOf_w k1.of).2.2
  have h2 := (nodeOf_w k2.of).2.2
  unfold textV
  split <;> (rw [nodeText_size]; omega)
theorem ba_of_toList2 {a b : ByteArray} (h : a.toList = b.toList) : a = b := by
 refine ByteArray.ext ?_
 simpa [ByteArray.toList_eq] using h
theorem BSV {W V V' : World} {C : Prop} (hb : Below V.heap.size V V') (h : C ∧ Below W.heap.size W V) : Below W.heap.size W V' := h.2.trans (hb.mono h.2.size)
set_option maxRecDepth 100000 in
set_option maxHeartbeats 8000000 in
theorem lawVSpoilt.calls (wd : Int) (A : Option Addr) (c : Nat) (ls : List SLeaf) (pos : Int) (x : SLeaf) (lev : Int) (sd : SNode) (w : World) (hK : LaidT w) (hr : Kd.C kLeaf w A ls.length ls) (hc : ls.length ≤ c) (hub : ∀ x ∈ ls, OkU x.f3) (hxu : OkU x.f3) (hsu : OkU sd.f1) (hll : ls.length ≤ 9223372036854775807) (hpos : 0 ≤ pos ∧ pos < 65536) (hlev : 0 ≤ lev ∧ lev < 256) :
  Calls Tryd.prog 11 #[.int .i64 wd, .slice A ls.length c, .int .u16 pos, leafV x, .int .u8 lev, nodeV sd] w fun e w' => e = .returned (.bool true) ∧ Below w.heap.size w w' := by
 have HLEV := aM' hlev
 have HSU := aM' hsu
 clear hlev hsu
 have HK := aM' hK
 have HR := aM' hr
 have HC := aM' hc
 have HPOS := aM' hpos
 have HUB := aM' (And.intro hub hxu)
 obtain ⟨kg, hkg⟩ := (great15_ev ls hll).rounds
 obtain ⟨kx, hkx⟩ := (great15_ev [x] (by simp)).rounds
 have HKX := aM' hkx
 obtain ⟨gr, hgr⟩ : ∃ g, g = greatL ls := ⟨_, rfl⟩
 obtain ⟨gx, hgx⟩ : ∃ g, g = greatL [x] := ⟨_, rfl⟩
 rw [← hgr] at hkg
 have HG := aM' hkg
 have HGR := aM' hgr
 have HGX := aM' hgx
 obtain ⟨W0, hW0⟩ : ∃ V, V = (w.alloc (.cells (acL x) 36)).alloc (.cells (nodeA sd) 46) := ⟨_, rfl⟩
 have HB0 := aM' (show Below w.heap.size w W0 by rw [hW0]; exact below_alloc (below_alloc (Below.refl _ _) _) _)
 have HX0 := aM' (show W0.heap[w.heap.size]? = some (.cells (acL x) 36 (0, 0)) by rw [hW0]; exact blk_alloc (blk_new _ _) _)
 have HD0 := aM' (show W0.heap[w.heap.size + 1]? = some (.cells (nodeA sd) 46 (0, 0)) by rw [hW0]; have h := blk_new (w.alloc (.cells (acL x) 36)) (.cells (nodeA sd) 46); rw [World.size_alloc] at h; exact h)
 obtain ⟨gd, hgd⟩ : ∃ g, g = w.heap.size + 1 := ⟨_, rfl⟩
 rw [← hgd] at HD0
 clear hK hr hc hub hxu hll hpos hkg hgr hgx hkx
 go_enter Tryd.func11, Tryd.ntmps11
 go_wp2_with fail
 rw [← hW0, ← hgd]
 clear hW0 hgd
 refine (awake17.calls W0 (HK.out.below HB0.out)).mono ?_
 rintro e w1 ⟨rfl, hb⟩
 have HB1 := aM' (HB0.out.trans (hb.mono HB0.out.size))
 have HX1 := aM' (blk_below HX0.out hb)
 have HD1 := aM' (blk_below HD0.out hb)
 clear hb
 go_wp2_with fail
 refine (paymasterlaw15_Great.calls kg A c ls gr _ (Kd.C_below HR.out HB1.out) HC.out HG.out).mono ?_
 rintro e w2 ⟨rfl, hd⟩
 obtain ⟨nd, rfl⟩ := hd
 obtain ⟨W2, hW2⟩ : ∃ V, V = w1.drewN nd := ⟨_, rfl⟩
 have HB2 := aM' (show Below w.heap.size w W2 by rw [hW2]; exact pw_below_drewN HB1.out nd)
 have HX2 := aM' (show W2.heap[w.heap.size]? = some (.cells (acL x) 36 (0, 0)) by rw [hW2]; exact blk_drewN HX1.out nd)
 have HD2 := aM' (show W2.heap[gd]? = some (.cells (nodeA sd) 46 (0, 0)) by rw [hW2]; exact blk_drewN HD1.out nd)
 rw [← hW2]
 clear hW2
 cases gr with
 | true =>
  go_wp2
  go_ret
  exact ⟨rfl, HB2.out⟩
 | false =>
  have x0 := blk_cell HX2.out 0
  have x1 := blk_cell HX2.out 1
  have x2 := blk_cell HX2.out 2
  have x3 := blk_cell HX2.out 3
  have x4 := blk_cell HX2.out 4
  simp at x0 x1 x2 x3 x4
  obtain ⟨W3, hW3⟩ : ∃ V, V = W2.alloc (.cells #[.bool x.f0, .string x.f1, .string x.f2, .int .u64 x.f3.f0, .int .u64 x.f3.f1] 36) := ⟨_, rfl⟩
  have HB3 := aM' (show Below w.heap.size w W3 by rw [hW3]; exact below_alloc HB2.out _)
  have HX3 := aM' (show W3.heap[w.heap.size]? = some (.cells (acL x) 36 (0, 0)) by rw [hW3]; exact blk_alloc HX2.out _)
  have HD3 := aM' (show W3.heap[gd]? = some (.cells (nodeA sd) 46 (0, 0)) by rw [hW3]; exact blk_alloc HD2.out _)
  have hz := hW3 ▸ blk_new W2 (.cells #[.bool x.f0, .string x.f1, .string x.f2, .int .u64 x.f3.f0, .int .u64 x.f3.f1] 36)
  have HCX := aM' (litL_C (xs := [x]) hz rfl (by simp))
  clear hz
  go_wp2_with fail
  rw [← hW3]
  clear hW3 x0 x1 x2 x3 x4
  refine (paymasterlaw15_Great.calls kx (some ⟨W2.heap.size, 0, none⟩) 1 [x] gx W3 HCX.out (by simp) (by rw [HGX.out]; exact HKX.out)).mono ?_
  rintro e w4 ⟨rfl, hd⟩
  obtain ⟨nd, rfl⟩ := hd
  obtain ⟨W4, hW4⟩ : ∃ V, V = W3.drewN nd := ⟨_, rfl⟩
  have HB4 := aM' (show Below w.heap.size w W4 by rw [hW4]; exact pw_below_drewN HB3.out nd)
  have HX4 := aM' (show W4.heap[w.heap.size]? = some (.cells (acL x) 36 (0, 0)) by rw [hW4]; exact blk_drewN HX3.out nd)
  have HD4 := aM' (show W4.heap[gd]? = some (.cells (nodeA sd) 46 (0, 0)) by rw [hW4]; exact blk_drewN HD3.out nd)
  rw [← hW4]
  clear hW4
  cases gx with
  | true =>
   go_wp2
   go_ret
   exact ⟨rfl, HB4.out⟩
  | false =>
   have x0 : W4.cell? ⟨gd, 0, none⟩ = some (.string sd.f0) := blk_cell HD4.out 0
   by_cases h60 : (60 : Int) < (sd.f0.size : Int)
   ·
    have b1 : decide ((60 : Int) < (sd.f0.size : Int)) = true := decide_eq_true h60
    have b2 : decide (60 < sd.f0.size) = true := decide_eq_true (by omega)
    go_wp2
    go_ret
    exact ⟨rfl, HB4.out⟩
   have b1 : decide ((60 : Int) < (sd.f0.size : Int)) = false := decide_eq_false h60
   have b2 : decide (60 < sd.f0.size) = false := decide_eq_false (by omega)
   clear h60
   obtain ⟨h70, hsz⟩ := greatL_ok HGR.out.symm
   obtain ⟨-, hsx⟩ := greatL_ok HGX.out.symm
   have HOK := aM' (show ∀ y ∈ ls, OkL y from fun y hy => ⟨by have := (hsz y hy).1; omega, by have := (hsz y hy).2; omega, HUB.out.1 y hy⟩)
   have HOX := aM' (show OkL x from ⟨by have := (hsx x (by simp)).1; omega, by have := (hsx x (by simp)).2; omega, HUB.out.2⟩)
   have H70 := aM' h70
   clear h70 hsz hsx
   go_wp2_with fail
   refine (treeNew.calls wd A c ls W4 (HK.out.below HB4.out) (Kd.C_below HR.out HB4.out) HC.out (by have := H70.out; omega) HOK.out).mono ?_
   rintro e w5 ⟨hb, h⟩
   clear b1 b2 x0
   have HB5 := aM' (HB4.out.trans (hb.mono HB4.out.size))
   have HX5 := aM' (blk_below HX4.out hb)
   have HD5 := aM' (blk_below HD4.out hb)
   rcases h with ⟨hz, ta, gl, cl, VV, gs, rfl, hO⟩ | ⟨hnz, rfl⟩
   case inr =>
    have b0 : (newI wd ls == 0) = false := by simp [hnz]
    have HNZ := aM' hnz
    clear hb hnz
    generalize newI wd ls = er at b0 HNZ
    go_wp2
    go_ret
    exact ⟨rfl, HB5.out⟩
   case inl =>
    have HO5 := aM' hO
    have HKK := aM' (newI_zero hz HOK.out)
    clear hb hz hO
    obtain ⟨m, hm⟩ : ∃ m, m = ls.length.log2 := ⟨_, rfl⟩
    have HMM := aM' hm
    have HL1024 := aM' (show ls.length ≤ 1024 by have := H70.out; omega)
    have hm6 : m ≤ 6 := by
     rcases Nat.lt_or_ge 6 m with h1 | h1
     ·
      have h2 := Nat.pow_le_pow_right (n := 2) (by decide) (show 7 ≤ m by omega)
      have h3 := HKK.out.p
      rw [← HMM.out] at h3
      have := H70.out
      omega
     ·
      exact h1
    have HM6 := aM' hm6
    have hpos1 : 1 ≤ ls.length := by rw [HKK.out.p]; exact Nat.one_le_two_pow
    obtain ⟨p, hp⟩ : ∃ p : Nat, (p : Int) = pos % (ls.length : Int) := ⟨(pos % (ls.length : Int)).toNat, by rw [Int.toNat_of_nonneg (Int.emod_nonneg _ (by omega))]⟩
    have hpl : p < ls.length := by have := Int.emod_lt_of_pos pos (show (0 : Int) < (ls.length : Int) by omega); omega
    have HPL := aM' hpl
    have hw0 : IntKind.u64.wrap pos = pos := wrapu64_id (by have := HPOS.out; omega) (by have := HPOS.out; omega)
    have hrem : Int.tmod pos (ls.length : Int) = (p : Int) := by rw [hp]; exact Int.tmod_eq_emod_of_nonneg HPOS.out.1
    have hwl : IntKind.u64.wrap (ls.length : Int) = (ls.length : Int) := wrapu64_id (by omega) (by have := H70.out; omega)
    have hne : ((ls.length : Nat) : Int) ≠ 0 := by omega
    have hne2 : ls.length ≠ 0 := by omega
    clear hm hp hpl hpos1 hm6
    go_wp2_with fail
    refine (proofOf.calls _ ta gl cl VV gs wd ls p m w5 HO5.out HKK.out HL1024.out HMM.out (by have := HM6.out; omega) HPL.out).mono ?_
    rintro e w6 ⟨A6, c6, rfl, hown, hb⟩
    clear hw0 hrem hwl hne hne2
    obtain ⟨y, hy⟩ : ∃ y, y = ls[p]'HPL.out := ⟨_, rfl⟩
    rw [← hy]
    have HY := aM' hy
    obtain ⟨hc6, hk6⟩ := own_nodes hown (besL_len wd ls p m)
    obtain ⟨Sh, hSh⟩ : ∃ s, s = besL wd ls p m := ⟨_, rfl⟩
    rw [← hSh] at hk6
    have HSH := aM' hSh
    obtain ⟨g15, hg15⟩ : ∃ g, g = w6.heap.size := ⟨_, rfl⟩
    obtain ⟨W7, hW7⟩ : ∃ V, V = w6.alloc (.cells #[.bool y.f0, .string y.f1, .string y.f2, .int .u64 y.f3.f0, .int .u64 y.f3.f1, .int .u64 (p : Int), .slice A6 m c6] 70) := ⟨_, rfl⟩
    have hb7 : Below w5.heap.size w5 W7 := by rw [hW7]; exact below_alloc hb _
    have hz7 : Below w6.heap.size w6 W7 := by rw [hW7]; exact below_alloc (Below.refl _ _) _
    have HB7 := aM' (HB5.out.trans (hb7.mono HB5.out.size))
    have HO7 := aM' (HO5.out.keep hb7)
    have HX7 := aM' (blk_below HX5.out hb7)
    have HD7 := aM' (blk_below HD5.out hb7)
    have HK7 := aM' (Kd.C_below hk6 hz7)
    have HC6 := aM' hc6
    have HE7 := aM' (show W7.heap[g15]? = some (.cells #[.bool y.f0, .string y.f1, .string y.f2, .int .u64 y.f3.f0, .int .u64 y.f3.f1, .int .u64 (p : Int), .slice A6 m c6] 70 (0, 0)) by rw [hW7, hg15]; exact blk_new _ _)
    clear hown hb hb7 hz7 hc6 hk6 hy hSh
    go_upto_region 9 with (fail)
    simp only [← hg15, ← hW7]
    clear hg15 hW7
    have x6 : W7.cell? ⟨g15, 6, none⟩ = some (.slice A6 m c6) := blk_cell HE7.out 6
    have HON := aM' (fun n => HO7.out.keep (pw_below_drewN (Below.refl _ _) n))
    go_quiet (exact Calls.quiet_of_same (((HON.out _).heightC HKK.out HL1024.out HMM.out).mono fun e w' h => ⟨h.1, h.2.symm⟩))
    clear x6
    obtain ⟨W8, hW8⟩ : ∃ V, V = W7.drewN nq := ⟨_, rfl⟩
    have hb8 : Below W7.heap.size W7 W8 := by rw [hW8]; exact pw_below_drewN (Below.refl _ _) nq
    have HB8 := aM' (HB7.out.trans (hb8.mono HB7.out.size))
    have HO8 := aM' (HO7.out.keep hb8)
    have HX8 := aM' (blk_below HX7.out hb8)
    have HD8 := aM' (blk_below HD7.out hb8)
    have HK8 := aM' (Kd.C_below HK7.out hb8)
    have HE8 := aM' (blk_below HE7.out hb8)
    go_upto_region 11 with (fail)
    simp only [← hW8]
    clear hW8 hb8
    have y0 := blk_cell HE8.out 0
    have y1 := blk_cell HE8.out 1
    have y2 := blk_cell HE8.out 2
    have y3 := blk_cell HE8.out 3
    have y4 := blk_cell HE8.out 4
    have y5 := blk_cell HE8.out 5
    have y6 := blk_cell HE8.out 6
    simp at y0 y1 y2 y3 y4 y5 y6
    obtain ⟨g17, hg17⟩ : ∃ g, g = W8.heap.size := ⟨_, rfl⟩
    obtain ⟨W9, hW9⟩ : ∃ V, V = W8.alloc (.cells #[.bool y.f0, .string y.f1, .string y.f2, .int .u64 y.f3.f0, .int .u64 y.f3.f1, .int .u64 (p : Int), .slice A6 m c6] 70) := ⟨_, rfl⟩
    have hb9 : Below W8.heap.size W8 W9 := by rw [hW9]; exact below_alloc (Below.refl _ _) _
    have hs9 : W9.heap.size = g17 + 1 := by rw [hW9, hg17]; exact World.size_alloc _ _
    have HG17 := aM' (show W8.heap.size ≤ g17 by rw [hg17]; exact Nat.le_refl _)
    have HE9 := aM' (show W9.heap[g17]? = some (.cells #[.bool y.f0, .string y.f1, .string y.f2, .int .u64 y.f3.f0, .int .u64 y.f3.f1, .int .u64 (p : Int), .slice A6 m c6] 70 (0, 0)) by rw [hW9, hg17]; exact blk_new _ _)
    have HH9 := aM' (blk_below HE8.out hb9)
    have HB9 := aM' hb9
    have HS9 := aM' hs9
    have HSHL := aM' (show Sh.length = m by rw [HSH.out]; exact besL_len ..)
    go_upto_region 12 with (fail)
    simp only [← hg17, ← hW9]
    clear hg17 hW9 hb9 hs9 y0 y1 y2 y3 y4 y5 y6
    have hkk := Kd.C_below HK8.out HB9.out
    rw [← HSHL.out] at hkk
    obtain ⟨gm, cm, W10, hrun, hown, hb10⟩ := run_copyN A6 c6 Sh W9 hkk (by rw [HSHL.out]; have := HM6.out; omega)
    rw [HSHL.out] at hrun hown
    have h15 : ∀ o, (W9.alloc o).cell? ⟨g15, 6, none⟩ = some (.slice A6 m c6) := fun o => blk_cell (blk_alloc HH9.out o) 6
    have he10 := blk_below HE9.out hb10
    have z6 : W10.cell? ⟨g17, 6, none⟩ = some (.slice A6 m c6) := blk_cell he10 6
    have zf := fun i => blk_frozen he10 i
    obtain ⟨W11, hW11⟩ : ∃ V, V = W10.setCell ⟨g17, 6, none⟩ (.slice (some ⟨gm, 0, none⟩) m cm) := ⟨_, rfl⟩
    have HGM := aM' (show g17 < gm by have := (hown.lt gm rfl).1; have := HS9.out; omega)
    have HE11 := aM' (show W11.heap[g17]? = some (.cells #[.bool y.f0, .string y.f1, .string y.f2, .int .u64 y.f3.f0, .int .u64 y.f3.f1, .int .u64 (p : Int), .slice (some ⟨gm, 0, none⟩) m cm] 70 (0, 0)) by rw [hW11]; exact blk_put he10 6 _ rfl)
    have HR11 := aM' (show W11.ownsRow W9.heap.size 46 3 (.slice (some ⟨gm, 0, none⟩) m cm) m (cellsN Sh) by
     rw [hW11]
     exact ownAny_keep hown (fun g hg => Below.heap_setCell _ _ _ _ (by
      obtain rfl : gm = g := Option.some.inj hg
      show gm ≠ g17
      have := HGM.out
      omega)))
    have HB11 := aM' (show Below W8.heap.size W8 W11 by rw [hW11]; exact (HB9.out.trans (hb10.mono HB9.out.size)).setCell HG17.out _)
    have HO11 := aM' (HO8.out.keep HB11.out)
    clear he10 hown hb10 hkk
    obtain ⟨kk, hkq⟩ : ∃ n : Nat, (n : Int) = lev % ((m : Int) + 1) := ⟨(lev % ((m : Int) + 1)).toNat, by rw [Int.toNat_of_nonneg (Int.emod_nonneg _ (by omega))]⟩
    have hkm : kk ≤ m := by have := Int.emod_lt_of_pos lev (show (0 : Int) < (m : Int) + 1 by omega); omega
    have hrem : Int.tmod lev ((m : Int) + 1) = (kk : Int) := by rw [hkq]; exact Int.tmod_eq_emod_of_nonneg HLEV.out.1
    have hwv : IntKind.i64.wrap lev = lev := IntWalk.i64_in _ (by have := HLEV.out; omega)
    have hne : ((m : Int) + 1) ≠ 0 := by omega
    have hm6 : m ≤ 6 := HM6.out
    have HKM := aM' hkm
    clear hkq hkm
    go_wp2_with (at_builtin; refine Lib.wpList_append_run _ rfl _ _ _ _ rfl _ _ rfl rfl _ _ hrun ?_)
    rw [← hW11]
    clear hrun hW11 h15 z6 zf
    refine (HO11.out.heightC HKK.out HL1024.out HMM.out).mono ?_
    rintro e _ ⟨rfl, rfl⟩
    go_wp2_with fail
    refine (HO11.out.heightC HKK.out HL1024.out HMM.out).mono ?_
    rintro e _ ⟨rfl, rfl⟩
    clear hrem hwv hne
    obtain ⟨yl, hyl⟩ : ∃ z, z = if kk = m then x else y := ⟨_, rfl⟩
    obtain ⟨S2, hS2⟩ : ∃ z, z = if kk = m then Sh else Sh.set kk sd := ⟨_, rfl⟩
    have HYL := aM' hyl
    have HS2 := aM' hS2
    clear hyl hS2
    go_upto_if 84 with (fail)
    go_cut [] (fun wc => Aside0 (Below W8.heap.size W8 wc ∧ wc.heap[g17]? = some (.cells #[.bool yl.f0, .string yl.f1, .string yl.f2, .int .u64 yl.f3.f0, .int .u64 yl.f3.f1, .int .u64 (p : Int), .slice (some ⟨gm, 0, none⟩) m cm] 70 (0, 0)) ∧ wc.ownsRow W9.heap.size 46 3 (.slice (some ⟨gm, 0, none⟩) m cm) m (cellsN S2)))
    case first =>
     by_cases hke : kk = m
     ·
      have k1 : ((kk : Int) == (m : Int)) = true := by simp [hke]
      have k2 : (kk == m) = true := by simp [hke]
      have HX11 := aM' (blk_below HX8.out HB11.out)
      have x0 := blk_cell HX11.out 0
      have x1 := blk_cell HX11.out 1
      have x2 := blk_cell HX11.out 2
      have x3 := blk_cell HX11.out 3
      have x4 := blk_cell HX11.out 4
      have z0 := blk_cell HE11.out 0
      have z1 := blk_cell HE11.out 1
      have z2 := blk_cell HE11.out 2
      have z3 := blk_cell HE11.out 3
      have z4 := blk_cell HE11.out 4
      have zf := fun i => blk_frozen HE11.out i
      simp at x0 x1 x2 x3 x4 z0 z1 z2 z3 z4
      have HYX := aM' (show yl = x ∧ S2 = Sh by rw [HYL.out, HS2.out, if_pos hke, if_pos hke]; exact ⟨rfl, rfl⟩)
      clear hke
      go_wp2
      go_meet
      refine ⟨⟨?_, ?_, ?_⟩⟩
      ·
       exact below_set (below_set (below_set (below_set (below_set HB11.out HG17.out) HG17.out) HG17.out) HG17.out) HG17.out
      ·
       rw [HYX.out.1]
       exact blk_put (blk_put (blk_put (blk_put (blk_put HE11.out 0 _ rfl) 1 _ rfl) 2 _ rfl) 3 _ rfl) 4 _ rfl
      ·
       rw [HYX.out.2]
       exact ownAny_keep HR11.out (fun g hg => by
        obtain rfl : gm = g := Option.some.inj hg
        have hgg : gm ≠ g17 := by have := HGM.out; omega
        exact (Below.heap_setCell _ _ _ _ hgg).trans ((Below.heap_setCell _ _ _ _ hgg).trans ((Below.heap_setCell _ _ _ _ hgg).trans ((Below.heap_setCell _ _ _ _ hgg).trans (Below.heap_setCell _ _ _ _ hgg)))))
     ·
      have k1 : ((kk : Int) == (m : Int)) = false := by simp; omega
      have k2 : (kk == m) = false := by simp [hke]
      have HD11 := aM' (blk_below HD8.out HB11.out)
      have x0 := blk_cell HD11.out 0
      have x1 := blk_cell HD11.out 1
      have x2 := blk_cell HD11.out 2
      have z6 : W11.cell? ⟨g17, 6, none⟩ = some (.slice (some ⟨gm, 0, none⟩) m cm) := blk_cell HE11.out 6
      obtain ⟨cs, hcs, hcz⟩ := ownBlk HR11.out
      have hlt : kk < m := by have := HKM.out; omega
      have c0 := blk_cell hcs (kk * 3)
      have c1 := blk_cell hcs (kk * 3 + 1)
      have c2 := blk_cell hcs (kk * 3 + 2)
      have cf := fun i => blk_frozen hcs i
      rw [Array.getElem?_eq_getElem (by omega)] at c0 c1 c2
      generalize cs[kk * 3]'_ = v0 at c0
      generalize cs[kk * 3 + 1]'_ = v1 at c1
      generalize cs[kk * 3 + 2]'_ = v2 at c2
      simp at x0 x1 x2
      have hki : (kk : Int) < (m : Int) := by omega
      have HYX := aM' (show yl = y ∧ S2 = Sh.set kk sd by rw [HYL.out, HS2.out, if_neg hke, if_neg hke]; exact ⟨rfl, rfl⟩)
      have HLT := aM' hlt
      have hgm : W8.heap.size ≤ gm := by have := HGM.out; have := HG17.out; omega
      have HGM2 := aM' hgm
      clear hke hcs hcz hgm
      go_wp2
      go_meet
      refine ⟨⟨?_, ?_, ?_⟩⟩
      ·
       exact below_set (below_set (below_set HB11.out HGM2.out) HGM2.out) HGM2.out
      ·
       rw [HYX.out.1]
       have hgg : g17 ≠ gm := by have := HGM.out; omega
       exact (Below.heap_setCell _ _ _ _ hgg).trans ((Below.heap_setCell _ _ _ _ hgg).trans ((Below.heap_setCell _ _ _ _ hgg).trans HE11.out))
      ·
       rw [HYX.out.2]
       exact node_put HR11.out HSHL.out HLT.out sd
    case rest =>
     have HCT : Aside0 (Below W8.heap.size W8 wc ∧ wc.heap[g17]? = some (.cells #[.bool yl.f0, .string yl.f1, .string yl.f2, .int .u64 yl.f3.f0, .int .u64 yl.f3.f1, .int .u64 (p : Int), .slice (some ⟨gm, 0, none⟩) m cm] 70 (0, 0)) ∧ wc.ownsRow W9.heap.size 46 3 (.slice (some ⟨gm, 0, none⟩) m cm) m (cellsN S2)) := hcut
     clear hcut
     have HEc := aM' (blk_below HE8.out HCT.out.1)
     have HKc := aM' (Kd.C_below HK8.out HCT.out.1)
     have HOc := aM' (HO8.out.keep HCT.out.1)
     have HBc := aM' (HB8.out.trans (HCT.out.1.mono HB8.out.size))
     have HS2L := aM' (show S2.length = m by rw [HS2.out]; split <;> simp [HSHL.out])
     have HOY := aM' (show OkL y by rw [HY.out]; exact HOK.out _ (List.getElem_mem _))
     obtain ⟨hcm, hkc⟩ := own_nodes HCT.out.2.2 HS2L.out
     have HKM2 := aM' hkc
     have HCM := aM' hcm
     obtain ⟨rt, hrt⟩ : ∃ r, r = topI (treeT wd ls) := ⟨_, rfl⟩
     have HRT := aM' hrt
     obtain ⟨e1, he1⟩ : ∃ e : SEntry, e = ⟨y, ⟨(p : Int), Sh⟩⟩ := ⟨_, rfl⟩
     obtain ⟨e2, he2⟩ : ∃ e : SEntry, e = ⟨yl, ⟨(p : Int), S2⟩⟩ := ⟨_, rfl⟩
     have hE1 : e1 = entE wd ls p m := by
      rw [he1, HY.out, HSH.out]; unfold entE; simp [List.getD_eq_getElem?_getD, HPL.out]
     have HK1 := aM' (show OkE e1 by rw [hE1]; exact honest_okE HKK.out HMM.out HPL.out (by have := HM6.out; omega) HL1024.out HOK.out)
     have HK2 := aM' (show OkE e2 by
      have hyo : OkL yl := by rw [HYL.out]; split; exact HOX.out; exact HOY.out
      rw [he2]
      refine ⟨hyo.id, hyo.sa, hyo.ub, HK1.out.p.elim (fun a b => by rw [he1] at a b; exact ⟨a, b⟩), fun z hz => ?_, by show S2.length ≤ _; rw [HS2L.out]; have := HM6.out; omega⟩
      have hz2 : z ∈ S2 := hz
      rw [HS2.out] at hz2
      have hsh : ∀ z ∈ Sh, OkU z.f1 := fun z hz => HK1.out.us z (by rw [he1]; exact hz)
      split at hz2
      ·
       exact hsh z hz2
      ·
       rcases List.mem_or_eq_of_mem_set hz2 with h | rfl
       ·
        exact hsh z h
       ·
        exact HSU.out)
     have HR1 := aM' (show checkI ⟨rt.f0, rt.f1, (m : Int)⟩ e1 = 0 by rw [hE1, HRT.out]; exact honest_check HKK.out HMM.out HPL.out (by have := HM6.out; omega))
     have HU1 := aM' (show UpOk wd e1 by rw [hE1]; exact honest_up HKK.out HMM.out HPL.out (by have := HM6.out; omega))
     obtain ⟨ck, hck⟩ : ∃ v, v = checkI ⟨rt.f0, rt.f1, (m : Int)⟩ e2 := ⟨_, rfl⟩
     obtain ⟨bs, hbs⟩ : ∃ b, b = sameE e2 e1 := ⟨_, rfl⟩
     obtain ⟨ks, hks⟩ := (proofSame_ev e2 e1 (by rw [he2]; show S2.length ≤ _; rw [HS2L.out]; have := HM6.out; omega)).rounds
     have HE1 := aM' he1
     have HE2 := aM' he2
     have HCK := aM' hck
     have HBS := aM' hbs
     have HAE := aM' (show ∀ V : World, Below wc.heap.size wc V → ((V.cell? ⟨g17, 0, none⟩ = some (.bool yl.f0) ∧ V.cell? ⟨g17, 1, none⟩ = some (.string yl.f1) ∧ V.cell? ⟨g17, 2, none⟩ = some (.string yl.f2) ∧ V.cell? ⟨g17, 3, none⟩ = some (.int .u64 yl.f3.f0) ∧ V.cell? ⟨g17, 4, none⟩ = some (.int .u64 yl.f3.f1) ∧ V.cell? ⟨g17, 5, none⟩ = some (.int .u64 (p : Int)) ∧ V.cell? ⟨g17, 6, none⟩ = some (.slice (some ⟨gm, 0, none⟩) m cm)) ∧ (V.cell? ⟨g15, 0, none⟩ = some (.bool y.f0) ∧ V.cell? ⟨g15, 1, none⟩ = some (.string y.f1) ∧ V.cell? ⟨g15, 2, none⟩ = some (.string y.f2) ∧ V.cell? ⟨g15, 3, none⟩ = some (.int .u64 y.f3.f0) ∧ V.cell? ⟨g15, 4, none⟩ = some (.int .u64 y.f3.f1) ∧ V.cell? ⟨g15, 5, none⟩ = some (.int .u64 (p : Int)) ∧ V.cell? ⟨g15, 6, none⟩ = some (.slice A6 m c6))) ∧ Below wc.heap.size wc V from fun V h => ⟨⟨⟨(blk_cell (blk_below HCT.out.2.1 h) 0).trans rfl, (blk_cell (blk_below HCT.out.2.1 h) 1).trans rfl, (blk_cell (blk_below HCT.out.2.1 h) 2).trans rfl, (blk_cell (blk_below HCT.out.2.1 h) 3).trans rfl, (blk_cell (blk_below HCT.out.2.1 h) 4).trans rfl, (blk_cell (blk_below HCT.out.2.1 h) 5).trans rfl, (blk_cell (blk_below HCT.out.2.1 h) 6).trans rfl⟩, ⟨(blk_cell (blk_below HEc.out h) 0).trans rfl, (blk_cell (blk_below HEc.out h) 1).trans rfl, (blk_cell (blk_below HEc.out h) 2).trans rfl, (blk_cell (blk_below HEc.out h) 3).trans rfl, (blk_cell (blk_below HEc.out h) 4).trans rfl, (blk_cell (blk_below HEc.out h) 5).trans rfl, (blk_cell (blk_below HEc.out h) 6).trans rfl⟩⟩, h⟩)
     have HSE := aM' (below_drew (Below.refl wc.heap.size wc))
     have HSAME := aM' (show ∀ V : World, Below wc.heap.size wc V → Calls Tryd.prog 45 #[.agg #[.bool yl.f0, .string yl.f1, .string yl.f2, .int .u64 yl.f3.f0, .int .u64 yl.f3.f1, .int .u64 (p : Int), .slice (some ⟨gm, 0, none⟩) m cm], .agg #[.bool y.f0, .string y.f1, .string y.f2, .int .u64 y.f3.f0, .int .u64 y.f3.f1, .int .u64 (p : Int), .slice A6 m c6]] V fun e w' => e = .returned (.bool bs) ∧ Below V.heap.size V w' from fun V h => by
      have q := proof_Same.calls ks yl.f0 yl.f1 yl.f2 yl.f3.f0 yl.f3.f1 (p : Int) (some ⟨gm, 0, none⟩) cm S2 y.f0 y.f1 y.f2 y.f3.f0 y.f3.f1 (p : Int) A6 c6 Sh bs V (by rw [HS2L.out]; exact Kd.C_below HKM2.out h) (by rw [HS2L.out]; exact HCM.out) (by rw [HSHL.out]; exact Kd.C_below HKc.out h) (by rw [HSHL.out]; exact HC6.out) (by rw [HBS.out, HE1.out, HE2.out]; rw [he1, he2] at hks; exact hks)
      rw [HS2L.out, HSHL.out] at q
      exact q)
     have HROOT := aM' (show ∀ V : World, Below wc.heap.size wc V → Calls Tryd.prog 21 #[ptrT ta] V fun e w' => e = .returned (.agg #[.string rt.f0, .int .u64 rt.f1.f0, .int .u64 rt.f1.f1, .int .i64 (m : Int)]) ∧ Below V.heap.size V w' from fun V h => (HOc.out.keep h).rootC HKK.out HL1024.out HMM.out HRT.out)
     have HCK2 := aM' (show ∀ V : World, Below wc.heap.size wc V → Calls Tryd.prog 44 #[.agg #[.string rt.f0, .int .u64 rt.f1.f0, .int .u64 rt.f1.f1, .int .i64 (m : Int)], .agg #[.bool yl.f0, .string yl.f1, .string yl.f2, .int .u64 yl.f3.f0, .int .u64 yl.f3.f1, .int .u64 (p : Int), .slice (some ⟨gm, 0, none⟩) m cm]] V fun e w' => e = .returned (.int .i64 ck) ∧ Below V.heap.size V w' from fun V h => by
      have hf := verifyCheck_eq ⟨rt.f0, rt.f1, (m : Int)⟩ e2 HK2.out
      rw [← HCK.out, HE2.out] at hf
      have q := verify_Check.calls rt.f0 rt.f1.f0 rt.f1.f1 (m : Int) yl.f0 yl.f1 yl.f2 yl.f3.f0 yl.f3.f1 (p : Int) (some ⟨gm, 0, none⟩) cm S2 ck V (HK.out.below (HBc.out.trans (h.mono HBc.out.size))) (by rw [HS2L.out]; exact Kd.C_below HKM2.out h) (by rw [HS2L.out]; exact HCM.out) hf
      rw [HS2L.out] at q
      exact q)
     have HCK1 := aM' (show ∀ V : World, Below wc.heap.size wc V → Calls Tryd.prog 44 #[.agg #[.string rt.f0, .int .u64 rt.f1.f0, .int .u64 rt.f1.f1, .int .i64 (m : Int)], .agg #[.bool y.f0, .string y.f1, .string y.f2, .int .u64 y.f3.f0, .int .u64 y.f3.f1, .int .u64 (p : Int), .slice A6 m c6]] V fun e w' => e = .returned (.int .i64 0) ∧ Below V.heap.size V w' from fun V h => by
      have hf := verifyCheck_eq ⟨rt.f0, rt.f1, (m : Int)⟩ e1 HK1.out
      rw [HR1.out, HE1.out] at hf
      have q := verify_Check.calls rt.f0 rt.f1.f0 rt.f1.f1 (m : Int) y.f0 y.f1 y.f2 y.f3.f0 y.f3.f1 (p : Int) A6 c6 Sh 0 V (HK.out.below (HBc.out.trans (h.mono HBc.out.size))) (by rw [HSHL.out]; exact Kd.C_below HKc.out h) (by rw [HSHL.out]; exact HC6.out) hf
      rw [HSHL.out] at q
      exact q)
     clear hcm hkc hrt he1 he2 hE1 hck hbs hks
     cases bs with
     | true =>
      go_upto_region 17 with (fail)
      refine region_inv (fun l a W => a = ({ tmps := #[.int .i64 wd, .slice A ls.length c, .int .u16 pos, leafV x, .int .u8 lev, nodeV sd, undef, undef, undef, .pointer (some ⟨w.heap.size, 0, none⟩), undef, .pointer (some ⟨gd, 0, none⟩), .bool false, ptrT ta, .int .i64 0, .pointer (some ⟨g15, 0, none⟩), .int .i64 0, .pointer (some ⟨g17, 0, none⟩), .int .i64 (kk : Int), undef, undef, undef, u22, u23, u24, u25, u26, u27, u28, u29, u30, u31, u32, u33, u34, u35, u36, u37, u38, u39, u40, u41, u42, u43, u44, u45, u46, u47, u48, u49, u50, u51, u52, u53, u54, u55, u56, u57, u58, u59, u60, u61, u62, u63, u64, u65, u66, u67, u68, u69, u70, u71, u72, u73, u74, u75, u76, u77, u78, u79, u80, u81, u82, u83, u84, u85, u86, u87, u88, u89, u90, u91, u92, sel (l 0) (.agg #[.bool yl.f0, .string yl.f1, .string yl.f2, .int .u64 yl.f3.f0, .int .u64 yl.f3.f1, .int .u64 (p : Int), .slice (some ⟨gm, 0, none⟩) m cm]) (u93), sel (l 1) (.agg #[.bool y.f0, .string y.f1, .string y.f2, .int .u64 y.f3.f0, .int .u64 y.f3.f1, .int .u64 (p : Int), .slice A6 m c6]) (u94), sel (l 2) (.bool true) (u95), sel (l 3) (.bool true) (u96), sel (l 4) (undef) (u97), sel (l 5) (undef) (u98), sel (l 6) (undef) (u99), sel (l 7) (undef) (u100), sel (l 8) (undef) (u101), sel (l 9) (.bool true) (u102), u103, u104, u105, u106, u107, u108, u109, u110, u111, u112, u113, u114, u115, u116, u117, u118, u119, u120, u121, u122, u123, u124, u125, u126, u127, u128, u129, u130, u131, u132, u133, u134, u135, u136, u137, u138, u139, u140, u141, u142, u143, u144, u145, u146, u147, u148, u149], defers := [] } : Act) ∧ Below wc.heap.size wc W) 10 rfl rfl (by kernel_rfl) ?h0 ?hend ?hstep
      case h0 => exact ⟨rfl, HSE.out⟩
      case hstep =>
       refine rg_cons (rg_cons (rg_cons (rg_cons (rg_cons (rg_cons (rg_cons (rg_cons (rg_cons (rg_cons (rg_nil) ?s0) ?s1) ?s2) ?s3) ?s4) ?s5) ?s6) ?s7) ?s8) ?s9
       case s0 =>
        refine rg_step rfl ?_
        rintro l a W ⟨rfl, hI⟩ hl hd
        clear hd
        have x0 := blk_cell (blk_below HCT.out.2.1 hI) 0
        have x1 := blk_cell (blk_below HCT.out.2.1 hI) 1
        have x2 := blk_cell (blk_below HCT.out.2.1 hI) 2
        have x3 := blk_cell (blk_below HCT.out.2.1 hI) 3
        have x4 := blk_cell (blk_below HCT.out.2.1 hI) 4
        have x5 := blk_cell (blk_below HCT.out.2.1 hI) 5
        have x6 := blk_cell (blk_below HCT.out.2.1 hI) 6
        simp at x0 x1 x2 x3 x4 x5 x6
        refine rg_val (v := .agg #[.bool yl.f0, .string yl.f1, .string yl.f2, .int .u64 yl.f3.f0, .int .u64 yl.f3.f1, .int .u64 (p : Int), .slice (some ⟨gm, 0, none⟩) m cm]) (w' := W) rfl (by go_simp) ?_
        refine ⟨?_, ?_⟩
        ·
         simp only [Act.put, List.setIfInBounds_toArray, List.set_cons_zero, List.set_cons_succ]; rfl
        ·
         exact hI
       case s1 =>
        refine rg_step rfl ?_
        rintro l a W ⟨rfl, hI⟩ hl hd
        clear hd
        have x0 := blk_cell (blk_below HEc.out hI) 0
        have x1 := blk_cell (blk_below HEc.out hI) 1
        have x2 := blk_cell (blk_below HEc.out hI) 2
        have x3 := blk_cell (blk_below HEc.out hI) 3
        have x4 := blk_cell (blk_below HEc.out hI) 4
        have x5 := blk_cell (blk_below HEc.out hI) 5
        have x6 := blk_cell (blk_below HEc.out hI) 6
        simp at x0 x1 x2 x3 x4 x5 x6
        refine rg_val (v := .agg #[.bool y.f0, .string y.f1, .string y.f2, .int .u64 y.f3.f0, .int .u64 y.f3.f1, .int .u64 (p : Int), .slice A6 m c6]) (w' := W) rfl (by go_simp) ?_
        refine ⟨?_, ?_⟩
        ·
         simp only [Act.put, List.setIfInBounds_toArray, List.set_cons_zero, List.set_cons_succ]; rfl
        ·
         exact hI
       case s2 =>
        refine rg_step rfl ?_
        rintro l a W ⟨rfl, hI⟩ hl hd
        have d0 := hd 0 (by decide)
        have d1 := hd 1 (by decide)
        clear hd
        refine rg_call rfl (by go_simp; exact ⟨rfl, rfl⟩) ?_
        refine (HSAME.out W hI).mono ?_
        rintro x W' ⟨rfl, hb⟩
        refine ⟨_, rfl, ?_, ?_⟩
        ·
         simp only [Act.put, List.setIfInBounds_toArray, List.set_cons_zero, List.set_cons_succ]; rfl
        ·
         exact hI.trans (hb.mono hI.size)
       case s3 =>
        refine rg_step rfl ?_
        rintro l a W ⟨rfl, hI⟩ hl hd
        have d2 := hd 2 (by decide)
        clear hd
        refine rg_val (v := .bool true) (w' := W) rfl (by go_simp) ?_
        refine ⟨?_, ?_⟩
        ·
         simp only [Act.put, List.setIfInBounds_toArray, List.set_cons_zero, List.set_cons_succ]; rfl
        ·
         exact hI
       case s4 =>
        refine rg_step rfl ?_
        rintro l a W ⟨rfl, hI⟩ hl hd
        have d3 := hd 3 (by decide)
        clear hd
        refine rg_not (by simp only [d3, sel_true]; rfl) ?_
        refine ⟨?_, ?_⟩
        ·
         simp only [Act.put, List.setIfInBounds_toArray, List.set_cons_zero, List.set_cons_succ]; rfl
        ·
         exact hI
       case s5 =>
        refine rg_step rfl ?_
        rintro l a W ⟨rfl, hI⟩ hl hd
        have d3 := hd 3 (by decide)
        clear hd
        refine rg_not (by simp only [d3, sel_true]; rfl) ?_
        refine ⟨?_, ?_⟩
        ·
         simp only [Act.put, List.setIfInBounds_toArray, List.set_cons_zero, List.set_cons_succ]; rfl
        ·
         exact hI
       case s6 =>
        refine rg_step rfl ?_
        rintro l a W ⟨rfl, hI⟩ hl hd
        have d3 := hd 3 (by decide)
        clear hd
        refine rg_not (by simp only [d3, sel_true]; rfl) ?_
        refine ⟨?_, ?_⟩
        ·
         simp only [Act.put, List.setIfInBounds_toArray, List.set_cons_zero, List.set_cons_succ]; rfl
        ·
         exact hI
       case s7 =>
        refine rg_step rfl ?_
        rintro l a W ⟨rfl, hI⟩ hl hd
        have d3 := hd 3 (by decide)
        clear hd
        refine rg_not (by simp only [d3, sel_true]; rfl) ?_
        refine ⟨?_, ?_⟩
        ·
         simp only [Act.put, List.setIfInBounds_toArray, List.set_cons_zero, List.set_cons_succ]; rfl
        ·
         exact hI
       case s8 =>
        refine rg_step rfl ?_
        rintro l a W ⟨rfl, hI⟩ hl hd
        have d3 := hd 3 (by decide)
        clear hd
        refine rg_not (by simp only [d3, sel_true]; rfl) ?_
        refine ⟨?_, ?_⟩
        ·
         simp only [Act.put, List.setIfInBounds_toArray, List.set_cons_zero, List.set_cons_succ]; rfl
        ·
         exact hI
       case s9 =>
        refine rg_step rfl ?_
        rintro l a W ⟨rfl, hI⟩ hl hd
        have d3 := hd 3 (by decide)
        have d8 := hd 8 (by decide)
        clear hd
        refine rg_val (v := .bool true) (w' := W) rfl (by go_simp) ?_
        refine ⟨?_, ?_⟩
        ·
         simp only [Act.put, List.setIfInBounds_toArray, List.set_cons_zero, List.set_cons_succ]; rfl
        ·
         exact hI
      case hend =>
       rintro l a W ⟨rfl, hI⟩ hall
       have e0 := hall 0 (by decide)
       have e1 := hall 1 (by decide)
       have e2 := hall 2 (by decide)
       have e3 := hall 3 (by decide)
       have e4 := hall 4 (by decide)
       have e5 := hall 5 (by decide)
       have e6 := hall 6 (by decide)
       have e7 := hall 7 (by decide)
       have e8 := hall 8 (by decide)
       have e9 := hall 9 (by decide)
       clear hall
       simp only [e0, e1, e2, e3, e4, e5, e6, e7, e8, e9, sel_true]
       clear e0 e1 e2 e3 e4 e5 e6 e7 e8 e9
       have HBW := aM' hI
       clear hI
       go_upto_region 18 with (fail)
       have HSE := aM' (below_drew HBW.out)
       go_region_held3 (fun V => ((V.cell? ⟨g17, 0, none⟩ = some (.bool yl.f0) ∧ V.cell? ⟨g17, 1, none⟩ = some (.string yl.f1) ∧ V.cell? ⟨g17, 2, none⟩ = some (.string yl.f2) ∧ V.cell? ⟨g17, 3, none⟩ = some (.int .u64 yl.f3.f0) ∧ V.cell? ⟨g17, 4, none⟩ = some (.int .u64 yl.f3.f1) ∧ V.cell? ⟨g17, 5, none⟩ = some (.int .u64 (p : Int)) ∧ V.cell? ⟨g17, 6, none⟩ = some (.slice (some ⟨gm, 0, none⟩) m cm)) ∧ (V.cell? ⟨g15, 0, none⟩ = some (.bool y.f0) ∧ V.cell? ⟨g15, 1, none⟩ = some (.string y.f1) ∧ V.cell? ⟨g15, 2, none⟩ = some (.string y.f2) ∧ V.cell? ⟨g15, 3, none⟩ = some (.int .u64 y.f3.f0) ∧ V.cell? ⟨g15, 4, none⟩ = some (.int .u64 y.f3.f1) ∧ V.cell? ⟨g15, 5, none⟩ = some (.int .u64 (p : Int)) ∧ V.cell? ⟨g15, 6, none⟩ = some (.slice A6 m c6))) ∧ Below wc.heap.size wc V) (first | exact HAE.out _ HSE.out | exact HAE.out _ (BSV (by assumption) (by assumption))) (first | (go_at_call 21; (with_reducible refine (HROOT.out _ (And.right (by assumption))).mono ?_); rintro e wz ⟨rfl, hb⟩) | (go_at_call 44; (with_reducible refine (HCK1.out _ (And.right (by assumption))).mono ?_); rintro e wz ⟨rfl, hb⟩))
       all_goals
        have HBF := aM' (show Below wc.heap.size wc wz from And.right (by assumption))
        go_wp2
        go_ret
        exact ⟨rfl, HBc.out.trans (HBF.out.mono HBc.out.size)⟩
     | false =>
      by_cases h0 : ck = 0
      case neg =>
       have kc : (ck == 0) = false := by simp [h0]
       have kc2 : ¬ ck = 0 := h0
       clear h0
       go_upto_region 17 with (fail)
       go_region_held3 (fun V => ((V.cell? ⟨g17, 0, none⟩ = some (.bool yl.f0) ∧ V.cell? ⟨g17, 1, none⟩ = some (.string yl.f1) ∧ V.cell? ⟨g17, 2, none⟩ = some (.string yl.f2) ∧ V.cell? ⟨g17, 3, none⟩ = some (.int .u64 yl.f3.f0) ∧ V.cell? ⟨g17, 4, none⟩ = some (.int .u64 yl.f3.f1) ∧ V.cell? ⟨g17, 5, none⟩ = some (.int .u64 (p : Int)) ∧ V.cell? ⟨g17, 6, none⟩ = some (.slice (some ⟨gm, 0, none⟩) m cm)) ∧ (V.cell? ⟨g15, 0, none⟩ = some (.bool y.f0) ∧ V.cell? ⟨g15, 1, none⟩ = some (.string y.f1) ∧ V.cell? ⟨g15, 2, none⟩ = some (.string y.f2) ∧ V.cell? ⟨g15, 3, none⟩ = some (.int .u64 y.f3.f0) ∧ V.cell? ⟨g15, 4, none⟩ = some (.int .u64 y.f3.f1) ∧ V.cell? ⟨g15, 5, none⟩ = some (.int .u64 (p : Int)) ∧ V.cell? ⟨g15, 6, none⟩ = some (.slice A6 m c6))) ∧ Below wc.heap.size wc V) (first | exact HAE.out _ HSE.out | exact HAE.out _ (BSV (by assumption) (by assumption))) (first | (go_at_call 45; (with_reducible refine (HSAME.out _ (And.right (by assumption))).mono ?_); rintro e wz ⟨rfl, hb⟩) | (go_at_call 21; (with_reducible refine (HROOT.out _ (And.right (by assumption))).mono ?_); rintro e wz ⟨rfl, hb⟩) | (go_at_call 44; (with_reducible refine (HCK2.out _ (And.right (by assumption))).mono ?_); rintro e wz ⟨rfl, hb⟩))
       all_goals
        have HBW := aM' (show Below wc.heap.size wc wz from And.right (by assumption))
        have HCKN := aM' kc
        go_upto_region 18 with (fail)
        clear kc
        have HSE := aM' (below_drew HBW.out)
        go_region_held3 (fun V => ((V.cell? ⟨g17, 0, none⟩ = some (.bool yl.f0) ∧ V.cell? ⟨g17, 1, none⟩ = some (.string yl.f1) ∧ V.cell? ⟨g17, 2, none⟩ = some (.string yl.f2) ∧ V.cell? ⟨g17, 3, none⟩ = some (.int .u64 yl.f3.f0) ∧ V.cell? ⟨g17, 4, none⟩ = some (.int .u64 yl.f3.f1) ∧ V.cell? ⟨g17, 5, none⟩ = some (.int .u64 (p : Int)) ∧ V.cell? ⟨g17, 6, none⟩ = some (.slice (some ⟨gm, 0, none⟩) m cm)) ∧ (V.cell? ⟨g15, 0, none⟩ = some (.bool y.f0) ∧ V.cell? ⟨g15, 1, none⟩ = some (.string y.f1) ∧ V.cell? ⟨g15, 2, none⟩ = some (.string y.f2) ∧ V.cell? ⟨g15, 3, none⟩ = some (.int .u64 y.f3.f0) ∧ V.cell? ⟨g15, 4, none⟩ = some (.int .u64 y.f3.f1) ∧ V.cell? ⟨g15, 5, none⟩ = some (.int .u64 (p : Int)) ∧ V.cell? ⟨g15, 6, none⟩ = some (.slice A6 m c6))) ∧ Below wc.heap.size wc V) (first | exact HAE.out _ HSE.out | exact HAE.out _ (BSV (by assumption) (by assumption))) (first | (go_at_call 21; (with_reducible refine (HROOT.out _ (And.right (by assumption))).mono ?_); rintro e wz ⟨rfl, hb⟩) | (go_at_call 44; (with_reducible refine (HCK1.out _ (And.right (by assumption))).mono ?_); rintro e wz ⟨rfl, hb⟩))
        all_goals
         have HBF := aM' (show Below wc.heap.size wc wz from And.right (by assumption))
         go_wp2
         go_ret
         exact ⟨rfl, HBc.out.trans (HBF.out.mono HBc.out.size)⟩
      subst h0
      go_upto_region 17 with (fail)
      go_region_held3 (fun V => ((V.cell? ⟨g17, 0, none⟩ = some (.bool yl.f0) ∧ V.cell? ⟨g17, 1, none⟩ = some (.string yl.f1) ∧ V.cell? ⟨g17, 2, none⟩ = some (.string yl.f2) ∧ V.cell? ⟨g17, 3, none⟩ = some (.int .u64 yl.f3.f0) ∧ V.cell? ⟨g17, 4, none⟩ = some (.int .u64 yl.f3.f1) ∧ V.cell? ⟨g17, 5, none⟩ = some (.int .u64 (p : Int)) ∧ V.cell? ⟨g17, 6, none⟩ = some (.slice (some ⟨gm, 0, none⟩) m cm)) ∧ (V.cell? ⟨g15, 0, none⟩ = some (.bool y.f0) ∧ V.cell? ⟨g15, 1, none⟩ = some (.string y.f1) ∧ V.cell? ⟨g15, 2, none⟩ = some (.string y.f2) ∧ V.cell? ⟨g15, 3, none⟩ = some (.int .u64 y.f3.f0) ∧ V.cell? ⟨g15, 4, none⟩ = some (.int .u64 y.f3.f1) ∧ V.cell? ⟨g15, 5, none⟩ = some (.int .u64 (p : Int)) ∧ V.cell? ⟨g15, 6, none⟩ = some (.slice A6 m c6))) ∧ Below wc.heap.size wc V) (first | exact HAE.out _ HSE.out | exact HAE.out _ (BSV (by assumption) (by assumption))) (first | (go_at_call 45; (with_reducible refine (HSAME.out _ (And.right (by assumption))).mono ?_); rintro e wz ⟨rfl, hb⟩) | (go_at_call 21; (with_reducible refine (HROOT.out _ (And.right (by assumption))).mono ?_); rintro e wz ⟨rfl, hb⟩) | (go_at_call 44; (with_reducible refine (HCK2.out _ (And.right (by assumption))).mono ?_); rintro e wz ⟨rfl, hb⟩))
      all_goals
       have HBW := aM' (show Below wc.heap.size wc wz from And.right (by assumption))
       go_upto_region 19 with (fail)
       have HU2 := aM' (show UpOk wd e2 by
        have h := ((checkI_iff _ _).1 HCK.out.symm).1
        have hw := (nodeOf_w (top_k HKK.out).of).2.2
        rw [← HRT.out] at hw
        dsimp only at h
        rw [hw] at h
        exact h)
       have HTX1 := aM' (show ∀ V : World, Below wc.heap.size wc V → Calls Tryd.prog 46 #[.int .i64 wd, .agg #[.bool y.f0, .string y.f1, .string y.f2, .int .u64 y.f3.f0, .int .u64 y.f3.f1, .int .u64 (p : Int), .slice A6 m c6]] V fun z w' => ∃ v, z = .returned v ∧ w'.ownsRow V.heap.size 9 1 v (m + 1) ((textsE wd e1).map Value.string) ∧ Below V.heap.size V w' from fun V h => by
        have q := texts.calls wd e1 A6 c6 V (HK.out.below (HBc.out.trans (h.mono HBc.out.size))) (by rw [HE1.out]; show Kd.C kNode V _ Sh.length Sh; rw [HSHL.out]; exact Kd.C_below HKc.out h) (by rw [HE1.out]; show Sh.length ≤ _; rw [HSHL.out]; exact HC6.out) HK1.out HU1.out
        have hl : (textsE wd e1).length = m + 1 := by unfold textsE; rw [List.length_cons, textsL_len, turnsTo_length, HE1.out]; show Sh.length + 1 = _; rw [HSHL.out]
        rw [hl, HE1.out] at q
        dsimp only at q
        rw [HSHL.out] at q
        rw [HE1.out]
        exact q)
       have HTX2 := aM' (show ∀ V : World, Below wc.heap.size wc V → Calls Tryd.prog 46 #[.int .i64 wd, .agg #[.bool yl.f0, .string yl.f1, .string yl.f2, .int .u64 yl.f3.f0, .int .u64 yl.f3.f1, .int .u64 (p : Int), .slice (some ⟨gm, 0, none⟩) m cm]] V fun z w' => ∃ v, z = .returned v ∧ w'.ownsRow V.heap.size 9 1 v (m + 1) ((textsE wd e2).map Value.string) ∧ Below V.heap.size V w' from fun V h => by
        have q := texts.calls wd e2 (some ⟨gm, 0, none⟩) cm V (HK.out.below (HBc.out.trans (h.mono HBc.out.size))) (by rw [HE2.out]; show Kd.C kNode V _ S2.length S2; rw [HS2L.out]; exact Kd.C_below HKM2.out h) (by rw [HE2.out]; show S2.length ≤ _; rw [HS2L.out]; exact HCM.out) HK2.out HU2.out
        have hl : (textsE wd e2).length = m + 1 := by unfold textsE; rw [List.length_cons, textsL_len, turnsTo_length, HE2.out]; show S2.length + 1 = _; rw [HS2L.out]
        rw [hl, HE2.out] at q
        dsimp only at q
        rw [HS2L.out] at q
        rw [HE2.out]
        exact q)
       have HLA := aM' (show (textsE wd e1).length = m + 1 by unfold textsE; rw [List.length_cons, textsL_len, turnsTo_length, HE1.out]; show Sh.length + 1 = _; rw [HSHL.out])
       have HLB := aM' (show (textsE wd e2).length = m + 1 by unfold textsE; rw [List.length_cons, textsL_len, turnsTo_length, HE2.out]; show S2.length + 1 = _; rw [HS2L.out])
       have HSE := aM' (below_drew HBW.out)
       go_region_held3 (fun V => ((V.cell? ⟨g17, 0, none⟩ = some (.bool yl.f0) ∧ V.cell? ⟨g17, 1, none⟩ = some (.string yl.f1) ∧ V.cell? ⟨g17, 2, none⟩ = some (.string yl.f2) ∧ V.cell? ⟨g17, 3, none⟩ = some (.int .u64 yl.f3.f0) ∧ V.cell? ⟨g17, 4, none⟩ = some (.int .u64 yl.f3.f1) ∧ V.cell? ⟨g17, 5, none⟩ = some (.int .u64 (p : Int)) ∧ V.cell? ⟨g17, 6, none⟩ = some (.slice (some ⟨gm, 0, none⟩) m cm)) ∧ (V.cell? ⟨g15, 0, none⟩ = some (.bool y.f0) ∧ V.cell? ⟨g15, 1, none⟩ = some (.string y.f1) ∧ V.cell? ⟨g15, 2, none⟩ = some (.string y.f2) ∧ V.cell? ⟨g15, 3, none⟩ = some (.int .u64 y.f3.f0) ∧ V.cell? ⟨g15, 4, none⟩ = some (.int .u64 y.f3.f1) ∧ V.cell? ⟨g15, 5, none⟩ = some (.int .u64 (p : Int)) ∧ V.cell? ⟨g15, 6, none⟩ = some (.slice A6 m c6))) ∧ Below wc.heap.size wc V) (first | exact HAE.out _ HSE.out | exact HAE.out _ (BSV (by assumption) (by assumption))) (first | (go_at_call 46; (with_reducible refine (HTX1.out _ (And.right (by assumption))).mono ?_); rintro e wa ⟨va, rfl, ra, hb⟩; have HRA := aM' ra) | (go_at_call 46; (with_reducible refine (HTX2.out _ (And.right (by assumption))).mono ?_); rintro e wb ⟨vb, rfl, rb, hb⟩; have HRB := aM' rb; have HRA2 := aM' (ownB HRA.out hb)))
       all_goals
        have HBb := aM' (show Below wc.heap.size wc wb from And.right (by assumption))
        obtain ⟨Ba, da, hva⟩ : ∃ Ba da, va = .slice Ba (m + 1) da := by
         rcases HRA.out.2 with ⟨h, h0⟩ | ⟨g, cap, cur, h, _⟩
         ·
          exact absurd h0 (by omega)
         ·
          exact ⟨_, _, h⟩
        obtain ⟨Bb, db, hvb⟩ : ∃ Ba da, vb = .slice Ba (m + 1) da := by
         rcases HRB.out.2 with ⟨h, h0⟩ | ⟨g, cap, cur, h, _⟩
         ·
          exact absurd h0 (by omega)
         ·
          exact ⟨_, _, h⟩
        obtain ⟨ga, cga, hfa, -, -⟩ := HRA2.out.form (by omega)
        obtain ⟨gb, cgb, hfb, -, -⟩ := HRB.out.form (by omega)
        rw [hva] at hfa
        rw [hvb] at hfb
        cases hfa
        cases hfb
        subst hva hvb
        have ea : ∀ g n, (⟨g, 0, none⟩ : Addr).add n = ⟨g, n, none⟩ := fun g n => by unfold Addr.add; split <;> simp_all
        have HCA := aM' (show ∀ (i : Nat) (s : ByteArray), (textsE wd e1)[i]? = some s → wb.cell? ⟨ga, i, none⟩ = some (.string s) from fun i s h => by
         have := HRA2.out.cells (g := ga) rfl i (.string s) (by rw [List.getElem?_map, h]; rfl)
         rw [ea] at this; exact this)
        have HCB := aM' (show ∀ (i : Nat) (s : ByteArray), (textsE wd e2)[i]? = some s → wb.cell? ⟨gb, i, none⟩ = some (.string s) from fun i s h => by
         have := HRB.out.cells (g := gb) rfl i (.string s) (by rw [List.getElem?_map, h]; rfl)
         rw [ea] at this; exact this)
        clear ea
        go_wp2
        go_loopw [21] (fun v21 wr => ∃ i : Nat, v21 = .int .i64 (i : Int) ∧ Aside0 (i ≤ m + 1) ∧ Aside0 (∀ (j : Nat) (s t : ByteArray), j < i → (textsE wd e1)[j]? = some s → (textsE wd e2)[j]? = some t → s ≠ t → dgI wd s ≠ dgI wd t) ∧ Aside0 (Below wb.heap.size wb wr)) (fun v21 _ => m + 1 - (intOf v21).toNat)
        case atStart => exact ⟨0, rfl, ⟨Nat.zero_le _⟩, ⟨fun j s t hj => absurd hj (by omega)⟩, ⟨Below.refl _ _⟩⟩
        case round =>
         obtain ⟨i, rfl, HI, HNO, HBR⟩ := hrel
         have hi7 : i ≤ 7 := by have := HI.out; have := HM6.out; omega
         by_cases hlt : i < m + 1
         ·
          have b1 : decide ((i : Int) < (m : Int) + 1) = true := decide_eq_true (by omega)
          have b2 : decide ((i : Int) < ((m + 1 : Nat) : Int)) = true := decide_eq_true (by omega)
          have b3 : decide (i < m + 1) = true := decide_eq_true hlt
          have HLT := aM' hlt
          obtain ⟨s, hs⟩ : ∃ s, (textsE wd e1)[i]? = some s := ⟨_, List.getElem?_eq_getElem (by rw [HLA.out]; exact hlt)⟩
          obtain ⟨u, hu⟩ : ∃ s, (textsE wd e2)[i]? = some s := ⟨_, List.getElem?_eq_getElem (by rw [HLB.out]; exact hlt)⟩
          have HSi := aM' hs
          have HUi := aM' hu
          obtain ⟨ds, hds⟩ : ∃ z, z = dgI wd s := ⟨_, rfl⟩
          obtain ⟨du, hdu⟩ : ∃ z, z = dgI wd u := ⟨_, rfl⟩
          have HDS := aM' (show tag_Digest.f wd s = some ds by rw [hds]; exact tagDigest_eq wd s HKK.out.w.1 HKK.out.w.2 (texts_small HK1.out HU1.out HSi.out))
          have HDU := aM' (show tag_Digest.f wd u = some du by rw [hdu]; exact tagDigest_eq wd u HKK.out.w.1 HKK.out.w.2 (texts_small HK2.out HU2.out HUi.out))
          have HDD := aM' (And.intro hds hdu)
          have HAE2 := aM' (show ∀ V : World, Below wr.heap.size wr V → (V.cell? ⟨ga, i, none⟩ = some (.string s) ∧ V.cell? ⟨gb, i, none⟩ = some (.string u)) ∧ Below wr.heap.size wr V from fun V h => ⟨⟨pw_cell_below h (pw_cell_below HBR.out (HCA.out i s HSi.out)), pw_cell_below h (pw_cell_below HBR.out (HCB.out i u HUi.out))⟩, h⟩)
          have HSE2 := aM' (below_drew (Below.refl wr.heap.size wr))
          have HKR := aM' (show LaidT wr from HK.out.below (HBc.out.trans ((HBb.out.trans (HBR.out.mono HBb.out.size)).mono HBc.out.size)))
          have HD1 := aM' (show ∀ V : World, Below wr.heap.size wr V → Calls Tryd.prog 32 #[.int .i64 wd, .string s] V fun e w' => e = .returned (.string ds) ∧ Below V.heap.size V w' from fun V h => tag_Digest.calls wd s ds V (HKR.out.below h).1 HDS.out)
          have HD2 := aM' (show ∀ V : World, Below wr.heap.size wr V → Calls Tryd.prog 32 #[.int .i64 wd, .string u] V fun e w' => e = .returned (.string du) ∧ Below V.heap.size V w' from fun V h => tag_Digest.calls wd u du V (HKR.out.below h).1 HDU.out)
          have him : (i : Int) < (m : Int) + 1 := by omega
          have him2 : (i : Int) < ((m + 1 : Nat) : Int) := by omega
          clear hs hu hds hdu
          by_cases hsu : s = u
          ·
           have ks : (s.toList == u.toList) = true := by simp [hsu]
           have HEQ := aM' hsu
           have HN1 := aM' (show ∀ (j : Nat) (s t : ByteArray), j < i + 1 → (textsE wd e1)[j]? = some s → (textsE wd e2)[j]? = some t → s ≠ t → dgI wd s ≠ dgI wd t from fun j s' t' hj hs ht hne => by
            rcases Nat.lt_or_ge j i with h1 | h1
            ·
             exact HNO.out j s' t' h1 hs ht hne
            ·
             obtain rfl : j = i := by omega
             rw [HSi.out] at hs
             rw [HUi.out] at ht
             cases hs
             cases ht
             exact absurd HEQ.out hne)
           clear hsu
           go_upto_region 23 with (fail)
           refine region_inv (fun l a W => a = ({ tmps := #[.int .i64 wd, .slice A ls.length c, .int .u16 pos, leafV x, .int .u8 lev, nodeV sd, undef, undef, undef, .pointer (some ⟨w.heap.size, 0, none⟩), undef, .pointer (some ⟨gd, 0, none⟩), u12, ptrT ta, .int .i64 0, .pointer (some ⟨g15, 0, none⟩), .int .i64 0, .pointer (some ⟨g17, 0, none⟩), .int .i64 (kk : Int), .slice (some ⟨ga, 0, none⟩) (m + 1) da, .slice (some ⟨gb, 0, none⟩) (m + 1) db, .int .i64 (i : Int), u22, u23, u24, u25, u26, u27, u28, u29, u30, u31, u32, u33, u34, u35, u36, u37, u38, u39, u40, u41, u42, u43, u44, u45, u46, u47, u48, u49, u50, u51, u52, u53, u54, u55, u56, u57, u58, u59, u60, u61, u62, u63, u64, u65, u66, u67, u68, u69, u70, u71, u72, u73, u74, u75, u76, u77, u78, u79, u80, u81, u82, u83, u84, u85, u86, u87, u88, u89, u90, u91, u92, .agg #[.bool yl.f0, .string yl.f1, .string yl.f2, .int .u64 yl.f3.f0, .int .u64 yl.f3.f1, .int .u64 (p : Int), .slice (some ⟨gm, 0, none⟩) m cm], .agg #[.bool y.f0, .string y.f1, .string y.f2, .int .u64 y.f3.f0, .int .u64 y.f3.f1, .int .u64 (p : Int), .slice A6 m c6], .bool false, .bool false, ptrT ta, .agg #[.string rt.f0, .int .u64 rt.f1.f0, .int .u64 rt.f1.f1, .int .i64 (m : Int)], .agg #[.bool yl.f0, .string yl.f1, .string yl.f2, .int .u64 yl.f3.f0, .int .u64 yl.f3.f1, .int .u64 (p : Int), .slice (some ⟨gm, 0, none⟩) m cm], .int .i64 0, .bool false, .bool false, u103, u104, u105, u106, u107, .int .i64 wd, .agg #[.bool y.f0, .string y.f1, .string y.f2, .int .u64 y.f3.f0, .int .u64 y.f3.f1, .int .u64 (p : Int), .slice A6 m c6], .slice (some ⟨ga, 0, none⟩) (m + 1) da, .int .i64 wd, .agg #[.bool yl.f0, .string yl.f1, .string yl.f2, .int .u64 yl.f3.f0, .int .u64 yl.f3.f1, .int .u64 (p : Int), .slice (some ⟨gm, 0, none⟩) m cm], .slice (some ⟨gb, 0, none⟩) (m + 1) db, .int .i64 (i : Int), .slice (some ⟨ga, 0, none⟩) (m + 1) da, .int .i64 ((m : Int) + 1), .bool true, .bool true, .int .i64 (i : Int), .slice (some ⟨gb, 0, none⟩) (m + 1) db, .int .i64 ((m : Int) + 1), .bool true, .bool true, u124, u125, sel (l 0) (.slice (some ⟨ga, 0, none⟩) (m + 1) da) (u126), sel (l 1) (.int .i64 (i : Int)) (u127), sel (l 2) (.pointer (some ⟨ga, i, none⟩)) (u128), sel (l 3) (.string s) (u129), sel (l 4) (.slice (some ⟨gb, 0, none⟩) (m + 1) db) (u130), sel (l 5) (.int .i64 (i : Int)) (u131), sel (l 6) (.pointer (some ⟨gb, i, none⟩)) (u132), sel (l 7) (.string u) (u133), sel (l 8) (.bool false) (u134), sel (l 9) (.bool false) (u135), sel (l 10) (undef) (u136), sel (l 11) (undef) (u137), sel (l 12) (undef) (u138), sel (l 13) (undef) (u139), sel (l 14) (undef) (u140), sel (l 15) (undef) (u141), sel (l 16) (undef) (u142), sel (l 17) (undef) (u143), sel (l 18) (undef) (u144), sel (l 19) (undef) (u145), sel (l 20) (undef) (u146), sel (l 21) (undef) (u147), sel (l 22) (undef) (u148), sel (l 23) (.bool false) (u149)], defers := [] } : Act) ∧ Below wr.heap.size wr W) 24 rfl rfl (by kernel_rfl) ?h0 ?hend ?hstep
           case h0 => exact ⟨rfl, HSE2.out⟩
           case hstep =>
            refine rg_cons (rg_cons (rg_cons (rg_cons (rg_cons (rg_cons (rg_cons (rg_cons (rg_cons (rg_cons (rg_cons (rg_cons (rg_cons (rg_cons (rg_cons (rg_cons (rg_cons (rg_cons (rg_cons (rg_cons (rg_cons (rg_cons (rg_cons (rg_cons (rg_nil) ?s0) ?s1) ?s2) ?s3) ?s4) ?s5) ?s6) ?s7) ?s8) ?s9) ?s10) ?s11) ?s12) ?s13) ?s14) ?s15) ?s16) ?s17) ?s18) ?s19) ?s20) ?s21) ?s22) ?s23
            case s0 =>
             refine rg_step rfl ?_
             rintro l a W ⟨rfl, hI⟩ hl hd
             clear hd
             refine rg_val (v := .slice (some ⟨ga, 0, none⟩) (m + 1) da) (w' := W) rfl (by go_simp) ?_
             refine ⟨?_, ?_⟩
             ·
              simp only [Act.put, List.setIfInBounds_toArray, List.set_cons_zero, List.set_cons_succ]; rfl
             ·
              exact hI
            case s1 =>
             refine rg_step rfl ?_
             rintro l a W ⟨rfl, hI⟩ hl hd
             clear hd
             refine rg_val (v := .int .i64 (i : Int)) (w' := W) rfl (by go_simp) ?_
             refine ⟨?_, ?_⟩
             ·
              simp only [Act.put, List.setIfInBounds_toArray, List.set_cons_zero, List.set_cons_succ]; rfl
             ·
              exact hI
            case s2 =>
             refine rg_step rfl ?_
             rintro l a W ⟨rfl, hI⟩ hl hd
             have d0 := hd 0 (by decide)
             have d1 := hd 1 (by decide)
             clear hd
             refine rg_val (v := .pointer (some ⟨ga, i, none⟩)) (w' := W) rfl (by go_simp; try rfl) ?_
             refine ⟨?_, ?_⟩
             ·
              simp only [Act.put, List.setIfInBounds_toArray, List.set_cons_zero, List.set_cons_succ]; rfl
             ·
              exact hI
            case s3 =>
             refine rg_step rfl ?_
             rintro l a W ⟨rfl, hI⟩ hl hd
             have d2 := hd 2 (by decide)
             clear hd
             obtain ⟨⟨y0, y1⟩, -⟩ := HAE2.out W hI
             refine rg_val (v := .string s) (w' := W) rfl (by go_simp) ?_
             refine ⟨?_, ?_⟩
             ·
              simp only [Act.put, List.setIfInBounds_toArray, List.set_cons_zero, List.set_cons_succ]; rfl
             ·
              exact hI
            case s4 =>
             refine rg_step rfl ?_
             rintro l a W ⟨rfl, hI⟩ hl hd
             clear hd
             refine rg_val (v := .slice (some ⟨gb, 0, none⟩) (m + 1) db) (w' := W) rfl (by go_simp) ?_
             refine ⟨?_, ?_⟩
             ·
              simp only [Act.put, List.setIfInBounds_toArray, List.set_cons_zero, List.set_cons_succ]; rfl
             ·
              exact hI
            case s5 =>
             refine rg_step rfl ?_
             rintro l a W ⟨rfl, hI⟩ hl hd
             clear hd
             refine rg_val (v := .int .i64 (i : Int)) (w' := W) rfl (by go_simp) ?_
             refine ⟨?_, ?_⟩
             ·
              simp only [Act.put, List.setIfInBounds_toArray, List.set_cons_zero, List.set_cons_succ]; rfl
             ·
              exact hI
            case s6 =>
             refine rg_step rfl ?_
             rintro l a W ⟨rfl, hI⟩ hl hd
             have d4 := hd 4 (by decide)
             have d5 := hd 5 (by decide)
             clear hd
             refine rg_val (v := .pointer (some ⟨gb, i, none⟩)) (w' := W) rfl (by go_simp; try rfl) ?_
             refine ⟨?_, ?_⟩
             ·
              simp only [Act.put, List.setIfInBounds_toArray, List.set_cons_zero, List.set_cons_succ]; rfl
             ·
              exact hI
            case s7 =>
             refine rg_step rfl ?_
             rintro l a W ⟨rfl, hI⟩ hl hd
             have d6 := hd 6 (by decide)
             clear hd
             obtain ⟨⟨y0, y1⟩, -⟩ := HAE2.out W hI
             refine rg_val (v := .string u) (w' := W) rfl (by go_simp) ?_
             refine ⟨?_, ?_⟩
             ·
              simp only [Act.put, List.setIfInBounds_toArray, List.set_cons_zero, List.set_cons_succ]; rfl
             ·
              exact hI
            case s8 =>
             refine rg_step rfl ?_
             rintro l a W ⟨rfl, hI⟩ hl hd
             have d3 := hd 3 (by decide)
             have d7 := hd 7 (by decide)
             clear hd
             have hs2 := HEQ.out
             refine rg_val (v := .bool false) (w' := W) rfl (by go_simp; try exact congrArg ByteArray.toList hs2) ?_
             refine ⟨?_, ?_⟩
             ·
              simp only [Act.put, List.setIfInBounds_toArray, List.set_cons_zero, List.set_cons_succ]; rfl
             ·
              exact hI
            case s9 =>
             refine rg_step rfl ?_
             rintro l a W ⟨rfl, hI⟩ hl hd
             have d8 := hd 8 (by decide)
             clear hd
             refine rg_val (v := .bool false) (w' := W) rfl (by go_simp) ?_
             refine ⟨?_, ?_⟩
             ·
              simp only [Act.put, List.setIfInBounds_toArray, List.set_cons_zero, List.set_cons_succ]; rfl
             ·
              exact hI
            case s10 =>
             refine rg_step rfl ?_
             rintro l a W ⟨rfl, hI⟩ hl hd
             have d9 := hd 9 (by decide)
             clear hd
             refine rg_not (by simp only [d9, sel_true]; rfl) ?_
             refine ⟨?_, ?_⟩
             ·
              simp only [Act.put, List.setIfInBounds_toArray, List.set_cons_zero, List.set_cons_succ]; rfl
             ·
              exact hI
            case s11 =>
             refine rg_step rfl ?_
             rintro l a W ⟨rfl, hI⟩ hl hd
             have d9 := hd 9 (by decide)
             clear hd
             refine rg_not (by simp only [d9, sel_true]; rfl) ?_
             refine ⟨?_, ?_⟩
             ·
              simp only [Act.put, List.setIfInBounds_toArray, List.set_cons_zero, List.set_cons_succ]; rfl
             ·
              exact hI
            case s12 =>
             refine rg_step rfl ?_
             rintro l a W ⟨rfl, hI⟩ hl hd
             have d9 := hd 9 (by decide)
             clear hd
             refine rg_not (by simp only [d9, sel_true]; rfl) ?_
             refine ⟨?_, ?_⟩
             ·
              simp only [Act.put, List.setIfInBounds_toArray, List.set_cons_zero, List.set_cons_succ]; rfl
             ·
              exact hI
            case s13 =>
             refine rg_step rfl ?_
             rintro l a W ⟨rfl, hI⟩ hl hd
             have d9 := hd 9 (by decide)
             clear hd
             refine rg_not (by simp only [d9, sel_true]; rfl) ?_
             refine ⟨?_, ?_⟩
             ·
              simp only [Act.put, List.setIfInBounds_toArray, List.set_cons_zero, List.set_cons_succ]; rfl
             ·
              exact hI
            case s14 =>
             refine rg_step rfl ?_
             rintro l a W ⟨rfl, hI⟩ hl hd
             have d9 := hd 9 (by decide)
             clear hd
             refine rg_not (by simp only [d9, sel_true]; rfl) ?_
             refine ⟨?_, ?_⟩
             ·
              simp only [Act.put, List.setIfInBounds_toArray, List.set_cons_zero, List.set_cons_succ]; rfl
             ·
              exact hI
            case s15 =>
             refine rg_step rfl ?_
             rintro l a W ⟨rfl, hI⟩ hl hd
             have d9 := hd 9 (by decide)
             clear hd
             refine rg_not (by simp only [d9, sel_true]; rfl) ?_
             refine ⟨?_, ?_⟩
             ·
              simp only [Act.put, List.setIfInBounds_toArray, List.set_cons_zero, List.set_cons_succ]; rfl
             ·
              exact hI
            case s16 =>
             refine rg_step rfl ?_
             rintro l a W ⟨rfl, hI⟩ hl hd
             have d9 := hd 9 (by decide)
             clear hd
             refine rg_not (by simp only [d9, sel_true]; rfl) ?_
             refine ⟨?_, ?_⟩
             ·
              simp only [Act.put, List.setIfInBounds_toArray, List.set_cons_zero, List.set_cons_succ]; rfl
             ·
              exact hI
            case s17 =>
             refine rg_step rfl ?_
             rintro l a W ⟨rfl, hI⟩ hl hd
             have d9 := hd 9 (by decide)
             clear hd
             refine rg_not (by simp only [d9, sel_true]; rfl) ?_
             refine ⟨?_, ?_⟩
             ·
              simp only [Act.put, List.setIfInBounds_toArray, List.set_cons_zero, List.set_cons_succ]; rfl
             ·
              exact hI
            case s18 =>
             refine rg_step rfl ?_
             rintro l a W ⟨rfl, hI⟩ hl hd
             have d9 := hd 9 (by decide)
             clear hd
             refine rg_not (by simp only [d9, sel_true]; rfl) ?_
             refine ⟨?_, ?_⟩
             ·
              simp only [Act.put, List.setIfInBounds_toArray, List.set_cons_zero, List.set_cons_succ]; rfl
             ·
              exact hI
            case s19 =>
             refine rg_step rfl ?_
             rintro l a W ⟨rfl, hI⟩ hl hd
             have d9 := hd 9 (by decide)
             clear hd
             refine rg_not (by simp only [d9, sel_true]; rfl) ?_
             refine ⟨?_, ?_⟩
             ·
              simp only [Act.put, List.setIfInBounds_toArray, List.set_cons_zero, List.set_cons_succ]; rfl
             ·
              exact hI
            case s20 =>
             refine rg_step rfl ?_
             rintro l a W ⟨rfl, hI⟩ hl hd
             have d9 := hd 9 (by decide)
             clear hd
             refine rg_not (by simp only [d9, sel_true]; rfl) ?_
             refine ⟨?_, ?_⟩
             ·
              simp only [Act.put, List.setIfInBounds_toArray, List.set_cons_zero, List.set_cons_succ]; rfl
             ·
              exact hI
            case s21 =>
             refine rg_step rfl ?_
             rintro l a W ⟨rfl, hI⟩ hl hd
             have d9 := hd 9 (by decide)
             clear hd
             refine rg_not (by simp only [d9, sel_true]; rfl) ?_
             refine ⟨?_, ?_⟩
             ·
              simp only [Act.put, List.setIfInBounds_toArray, List.set_cons_zero, List.set_cons_succ]; rfl
             ·
              exact hI
            case s22 =>
             refine rg_step rfl ?_
             rintro l a W ⟨rfl, hI⟩ hl hd
             have d9 := hd 9 (by decide)
             clear hd
             refine rg_not (by simp only [d9, sel_true]; rfl) ?_
             refine ⟨?_, ?_⟩
             ·
              simp only [Act.put, List.setIfInBounds_toArray, List.set_cons_zero, List.set_cons_succ]; rfl
             ·
              exact hI
            case s23 =>
             refine rg_step rfl ?_
             rintro l a W ⟨rfl, hI⟩ hl hd
             have d9 := hd 9 (by decide)
             have d22 := hd 22 (by decide)
             clear hd
             refine rg_val (v := .bool false) (w' := W) rfl (by go_simp) ?_
             refine ⟨?_, ?_⟩
             ·
              simp only [Act.put, List.setIfInBounds_toArray, List.set_cons_zero, List.set_cons_succ]; rfl
             ·
              exact hI
           case hend =>
            rintro l a W ⟨rfl, hI⟩ hall
            have e0 := hall 0 (by decide)
            have e1 := hall 1 (by decide)
            have e2 := hall 2 (by decide)
            have e3 := hall 3 (by decide)
            have e4 := hall 4 (by decide)
            have e5 := hall 5 (by decide)
            have e6 := hall 6 (by decide)
            have e7 := hall 7 (by decide)
            have e8 := hall 8 (by decide)
            have e9 := hall 9 (by decide)
            have e10 := hall 10 (by decide)
            have e11 := hall 11 (by decide)
            have e12 := hall 12 (by decide)
            have e13 := hall 13 (by decide)
            have e14 := hall 14 (by decide)
            have e15 := hall 15 (by decide)
            have e16 := hall 16 (by decide)
            have e17 := hall 17 (by decide)
            have e18 := hall 18 (by decide)
            have e19 := hall 19 (by decide)
            have e20 := hall 20 (by decide)
            have e21 := hall 21 (by decide)
            have e22 := hall 22 (by decide)
            have e23 := hall 23 (by decide)
            clear hall
            simp only [e0, e1, e2, e3, e4, e5, e6, e7, e8, e9, e10, e11, e12, e13, e14, e15, e16, e17, e18, e19, e20, e21, e22, e23, sel_true]
            clear e0 e1 e2 e3 e4 e5 e6 e7 e8 e9 e10 e11 e12 e13 e14 e15 e16 e17 e18 e19 e20 e21 e22 e23
            have HBF := aM' (HBR.out.trans (hI.mono HBR.out.size))
            clear hI ks
            go_wp2
            go_roundw
            case rel => exact ⟨i + 1, by go_num, ⟨by have := HLT.out; omega⟩, HN1, HBF⟩
            case measure => simp [intOf]; have := HLT.out; omega
          ·
           have ks : (s.toList == u.toList) = false := by rw [beq_eq_false_iff_ne]; exact fun e => hsu (ba_of_toList2 e)
           clear hsu
           by_cases hdd : ds = du
           ·
            have kd : (ds.toList == du.toList) = true := by simp [hdd]
            clear hdd
            go_upto_region 23 with (fail)
            go_region_held3 (fun V => (V.cell? ⟨ga, i, none⟩ = some (.string s) ∧ V.cell? ⟨gb, i, none⟩ = some (.string u)) ∧ Below wr.heap.size wr V) (first | exact HAE2.out _ HSE2.out | exact HAE2.out _ (BSV (by assumption) (by assumption))) (first | (go_at_call 32; (with_reducible refine (HD1.out _ (And.right (by assumption))).mono ?_); rintro e wz ⟨rfl, hb⟩) | (go_at_call 32; (with_reducible refine (HD2.out _ (And.right (by assumption))).mono ?_); rintro e wz ⟨rfl, hb⟩))
            all_goals
             have HBF := aM' (show Below wr.heap.size wr wz from And.right (by assumption))
             go_wp2
             go_ret
             exact ⟨rfl, HBc.out.trans ((HBb.out.trans ((HBR.out.trans (HBF.out.mono HBR.out.size)).mono HBb.out.size)).mono HBc.out.size)⟩
           ·
            have kd : (ds.toList == du.toList) = false := by rw [beq_eq_false_iff_ne]; exact fun e => hdd (ba_of_toList2 e)
            have HNE := aM' hdd
            have HN1 := aM' (show ∀ (j : Nat) (s t : ByteArray), j < i + 1 → (textsE wd e1)[j]? = some s → (textsE wd e2)[j]? = some t → s ≠ t → dgI wd s ≠ dgI wd t from fun j s' t' hj hs ht hne => by
             rcases Nat.lt_or_ge j i with h1 | h1
             ·
              exact HNO.out j s' t' h1 hs ht hne
             ·
              obtain rfl : j = i := by omega
              rw [HSi.out] at hs
              rw [HUi.out] at ht
              cases hs
              cases ht
              rw [← HDD.out.1, ← HDD.out.2]; exact HNE.out)
            clear hdd
            go_upto_region 23 with (fail)
            go_region_held3 (fun V => (V.cell? ⟨ga, i, none⟩ = some (.string s) ∧ V.cell? ⟨gb, i, none⟩ = some (.string u)) ∧ Below wr.heap.size wr V) (first | exact HAE2.out _ HSE2.out | exact HAE2.out _ (BSV (by assumption) (by assumption))) (first | (go_at_call 32; (with_reducible refine (HD1.out _ (And.right (by assumption))).mono ?_); rintro e wz ⟨rfl, hb⟩) | (go_at_call 32; (with_reducible refine (HD2.out _ (And.right (by assumption))).mono ?_); rintro e wz ⟨rfl, hb⟩))
            all_goals
             have HBF := aM' (HBR.out.trans ((show Below wr.heap.size wr wz from And.right (by assumption)).mono HBR.out.size))
             go_wp2
             go_roundw
             case rel => exact ⟨i + 1, by go_num, ⟨by have := HLT.out; omega⟩, HN1, HBF⟩
             case measure => simp [intOf]; have := HLT.out; omega
         ·
          exfalso
          have hw := (nodeOf_w (top_k HKK.out).of).2.2
          rw [← HRT.out] at hw
          have hc : NoCol ((⟨rt.f0, rt.f1, (m : Int)⟩ : SRoot).f0.size : Int) (textsE ((⟨rt.f0, rt.f1, (m : Int)⟩ : SRoot).f0.size : Int) e1) (textsE ((⟨rt.f0, rt.f1, (m : Int)⟩ : SRoot).f0.size : Int) e2) := by
           have e0 : (((⟨rt.f0, rt.f1, (m : Int)⟩ : SRoot).f0.size : Nat) : Int) = wd := hw
           rw [e0]
           intro j s' t' hs ht hne
           refine HNO.out j s' t' ?_ hs ht hne
           have := (List.getElem?_eq_some_iff.1 hs).1
           rw [HLA.out] at this
           omega
          have hEq := spoilt_same HK1.out HK2.out HR1.out HCK.out.symm (by rw [HE1.out, HE2.out]) hc
          have := HBS.out
          rw [hEq, sameE_refl] at this
          cases this
def law17_VerifySpoilt.f (wd : Int) (ls : List SLeaf) (pos : Int) (x0 : Bool) (x1 x2 : ByteArray) (x3 x4 lev : Int) (s0 : ByteArray) (s1 s2 : Int) : Option Bool := if (((0 ≤ pos ∧ pos < 65536) ∧ 0 ≤ lev ∧ lev < 256) ∧ ls.length ≤ 9223372036854775807) ∧ (∀ x ∈ ls, (0 ≤ x.f3.f0 ∧ x.f3.f0 < 18446744073709551616) ∧ 0 ≤ x.f3.f1 ∧ x.f3.f1 < 18446744073709551616) ∧ ((0 ≤ x3 ∧ x3 < 18446744073709551616) ∧ 0 ≤ x4 ∧ x4 < 18446744073709551616) ∧ (0 ≤ s1 ∧ s1 < 18446744073709551616) ∧ 0 ≤ s2 ∧ s2 < 18446744073709551616 then some true else none
theorem law17_VerifySpoilt.calls (wd : Int) (A : Option Addr) (c : Nat) (ls : List SLeaf) (pos : Int) (x0 : Bool) (x1 x2 : ByteArray) (x3 x4 lev : Int) (s0 : ByteArray) (s1 s2 : Int) (r : Bool) (w : World) (hK : LaidT w) (hr : Kd.C kLeaf w A ls.length ls) (hc : ls.length ≤ c) (h : law17_VerifySpoilt.f wd ls pos x0 x1 x2 x3 x4 lev s0 s1 s2 = some r) :
  Calls Tryd.prog 11 #[.int .i64 wd, .slice A ls.length c, .int .u16 pos, .agg #[.bool x0, .string x1, .string x2, .int .u64 x3, .int .u64 x4], .int .u8 lev, .agg #[.string s0, .int .u64 s1, .int .u64 s2]] w fun e w' => e = .returned (.bool r) ∧ Below w.heap.size w w' := by
 unfold law17_VerifySpoilt.f at h
 split at h
 ·
  next hh =>
  cases h
  exact lawVSpoilt.calls wd A c ls pos ⟨x0, x1, x2, ⟨x3, x4⟩⟩ lev ⟨s0, ⟨s1, s2⟩⟩ w hK hr hc (fun x hx => by obtain ⟨h1, h2⟩ := hh.2.1 x hx; exact ⟨h1, h2⟩) ⟨hh.2.2.1.1, hh.2.2.1.2⟩ ⟨hh.2.2.2.1, hh.2.2.2.2⟩ hh.1.2 hh.1.1.1 hh.1.1.2
 ·
  cases h
end Go.Proofs.YtfcodmdckcihmaaDoor.P
namespace Go.Proofs.YtfcodmdckcihmaaDoor.P
open Go.RowKit Go.Proofs.YtfcodmdckcihmaaDoorW.PrintWords Go.Proofs.YtfcodmdckcihmaaDoorW.PrintLast Go.Proofs.YtfcodmdckcihmaaDoorW.PrintMore
set_option linter.unusedVariables false
set_option linter.unusedSimpArgs false
set_option linter.unnecessarySimpa false
theorem wf_u16v {n : Int} (h : (Lit.int .u16 n).wf = true) : 0 ≤ n ∧ n < 65536 := by
 simp [Lit.wf, IntKind.min, IntKind.max, IntKind.signed, IntKind.bits] at h
 omega
theorem wf_u8v {n : Int} (h : (Lit.int .u8 n).wf = true) : 0 ≤ n ∧ n < 256 := by
 simp [Lit.wf, IntKind.min, IntKind.max, IntKind.signed, IntKind.bits] at h
 omega
theorem pure_VerifySpoilt : ∀ (y0 : Int) (y1 : (List SLeaf)) (y2 : Int) (y3 : SLeaf) (y4 : Int) (y5 : SNode), (Lit.int .i64 y0).wf = true → (y1.length ≤ 140737488355328 ∧ ∀ q0 ∈ y1, wfLeaf q0) → (Lit.int .u16 y2).wf = true → wfLeaf y3 → (Lit.int .u8 y4).wf = true → wfNode y5 → law17_VerifySpoilt.f y0 y1 y2 y3.f0 y3.f1 y3.f2 y3.f3.f0 y3.f3.f1 y4 y5.f0 y5.f1.f0 y5.f1.f1 = some true := fun _ _ _ _ _ _ _ hl h2 h3 h4 h5 => by
 unfold law17_VerifySpoilt.f
 rw [if_pos ⟨⟨⟨wf_u16v h2, wf_u8v h4⟩, by omega⟩, fun x hx => ⟨wf_u64 (hl.2 x hx).2.2.2.1, wf_u64 (hl.2 x hx).2.2.2.2⟩, ⟨wf_u64 h3.2.2.2.1, wf_u64 h3.2.2.2.2⟩, wf_u64 h5.2.1, wf_u64 h5.2.2⟩]
end Go.Proofs.YtfcodmdckcihmaaDoor.P
namespace Go.Proofs.YtfcodmdckcihmaaDoor.verifySpoilt
open Go.Proofs.YtfcodmdckcihmaaDoor.P Go.ChangeShapes Go.WideShapes Go.ChangeAt Go.RowKit
open Go.ChangeMaps (open_string shut_string)
open Go.Proofs.YtfcodmdckcihmaaDoorW.PrintWords Go.Proofs.YtfcodmdckcihmaaDoorW.PrintLast Go.Proofs.YtfcodmdckcihmaaDoorW.PrintMore
set_option linter.unusedVariables false
set_option linter.unusedSimpArgs false
theorem own : ownKnob Tryd.prog.godebug = none := by kernel_rfl
theorem laidOut : laidOutB Tryd.prog = true := by kernel_rfl
set_option maxRecDepth 100000 in
theorem lifted (os : Os) (started : os.Started) (H : Type) (enc : TypeId × Value → H) :
    ReturnsInHanded {} Tryd.checked os 11 .any (fun w args => (Rows.verifySpoiltSpec.pre enc Tryd.prog Tryd.f11 [] false w args ∧ laidMetH Tryd.prog Rows.verifySpoiltRow.laid w) ∧ sizedMet enc Tryd.prog Tryd.f11 (OpenSpec.ofChange Rows.verifySpoiltSpec) false w args)
      (Rows.verifySpoiltSpec.post enc Tryd.prog Tryd.f11 false true false false) := by
  refine returnsInHanded_of_change_and (C := Tryd.checked) (X := fun w _ => laidMetH Tryd.prog Rows.verifySpoiltRow.laid w) (fun _ _ _ hh h => h.of_heap hh) own started (by kernel_rfl) Tryd.func11
    (ChangeSpec.witness_at (enc := enc) (C := Tryd.checked) (os := os) (X := fun w _ => laidMetH Tryd.prog Rows.verifySpoiltRow.laid w) false (P.laidWorldT os) #[.int .i64 0, .slice none 0 0, .int .u16 0, .agg #[.bool false, .string ByteArray.empty, .string ByteArray.empty, .int .u64 0, .int .u64 0], .int .u8 0, .agg #[.string ByteArray.empty, .int .u64 0, .int .u64 0]] 8 rfl (by kernel_rfl) (by kernel_rfl) (by kernel_rfl) (by kernel_rfl) (by kernel_rfl) (P.laidWorldT_met os _)) ?_
  intro W base args ds gs before hval0 hW _ hsz0 hL _
  have hval : ∀ (j : Nat) t v, Tryd.f11.params[j]? = some t → args[j]? = some v → Value.okWide Tryd.prog W .any base t v := hval0
  have hW' := hW
  obtain ⟨p, q, hA0, hV, rfl, hfz, hnd⟩ := hW
  have hA : DataW.TrodAll enc Tryd.prog W 0 (fun _ => true) true Tryd.f11.params.toList args.toList ds p := hA0
  rw [Tryd.params11] at hA hval
  obtain ⟨v0, vs0, d0, ds0, p0, q0, hargs, rfl, rfl, h0, r0⟩ := trodAll_cons hA
  obtain ⟨v1, vs1, d1, ds1, p1, q1, rfl, rfl, rfl, h1, r1⟩ := trodAll_cons r0
  obtain ⟨v2, vs2, d2, ds2, p2, q2, rfl, rfl, rfl, h2, r2⟩ := trodAll_cons r1
  obtain ⟨v3, vs3, d3, ds3, p3, q3, rfl, rfl, rfl, h3, r3⟩ := trodAll_cons r2
  obtain ⟨v4, vs4, d4, ds4, p4, q4, rfl, rfl, rfl, h4, r4⟩ := trodAll_cons r3
  obtain ⟨v5, vs5, d5, ds5, p5, q5, rfl, rfl, rfl, h5, r5⟩ := trodAll_cons r4
  obtain ⟨rfl, rfl, rfl⟩ := trodAll_nil r5
  obtain rfl : args = #[v0, v1, v2, v3, v4, v5] := by cases args; simp_all
  obtain ⟨rfl, rfl⟩ := trodVars_none hV
  have hz0 : Sized Tryd.prog 3 d0 := Sized.each hsz0 (j := 0) rfl rfl
  have hz1 : Sized Tryd.prog 22 d1 := Sized.each hsz0 (j := 1) rfl rfl
  have hz2 : Sized Tryd.prog 50 d2 := Sized.each hsz0 (j := 2) rfl rfl
  have hz3 : Sized Tryd.prog 36 d3 := Sized.each hsz0 (j := 3) rfl rfl
  have hz4 : Sized Tryd.prog 5 d4 := Sized.each hsz0 (j := 4) rfl rfl
  have hz5 : Sized Tryd.prog 46 d5 := Sized.each hsz0 (j := 5) rfl rfl
  have k0 := h0
  have lt0 : ∀ x ∈ p0, x.block < W.heap.size := by obtain ⟨m, hm⟩ := k0; exact DataW.trod_lt m _ _ _ hm
  obtain ⟨y0, rfl, rfl, rfl, w0⟩ := open_int Tryd.underlying3 (hval 0 3 v0 rfl rfl) h0
  have k1 := h1
  have lt1 : ∀ x ∈ p1, x.block < W.heap.size := by obtain ⟨m, hm⟩ := k1; exact DataW.trod_lt m _ _ _ hm
  obtain ⟨a1, len1, cap1, rfl⟩ := okWide_slice Tryd.underlying22 (hval 1 22 v1 rfl rfl)
  obtain ⟨y1, hk1, w1⟩ := (Rd.slice Tryd.underlying22 (by kernel_rfl) (of_decide_eq_true (by kernel_rfl)) rdLeaf).cell rfl h1 hz1
  obtain ⟨A1, c1, e1, l1, g1⟩ := hk1
  rw [List.cons.injEq] at e1
  obtain ⟨e1, -⟩ := e1
  injection e1 with ea1 el1 ec1
  subst ea1 el1 ec1
  have k2 := h2
  have lt2 : ∀ x ∈ p2, x.block < W.heap.size := by obtain ⟨m, hm⟩ := k2; exact DataW.trod_lt m _ _ _ hm
  obtain ⟨y2, rfl, rfl, rfl, w2⟩ := open_int Tryd.underlying50 (hval 2 50 v2 rfl rfl) h2
  have k3 := h3
  have lt3 : ∀ x ∈ p3, x.block < W.heap.size := by obtain ⟨m, hm⟩ := k3; exact DataW.trod_lt m _ _ _ hm
  obtain ⟨y3, cs3, rfl, hk3, w3⟩ := rdLeaf.agg Tryd.underlying36 (hval 3 36 v3 rfl rfl) h3 hz3
  obtain ⟨cl3, rfl⟩ : ∃ l : List Value, cs3 = l.toArray := ⟨cs3.toList, by simp⟩
  simp only [List.toList_toArray] at hk3
  obtain rfl := kLeaf_open hk3
  have k4 := h4
  have lt4 : ∀ x ∈ p4, x.block < W.heap.size := by obtain ⟨m, hm⟩ := k4; exact DataW.trod_lt m _ _ _ hm
  obtain ⟨y4, rfl, rfl, rfl, w4⟩ := open_int Tryd.underlying5 (hval 4 5 v4 rfl rfl) h4
  have k5 := h5
  have lt5 : ∀ x ∈ p5, x.block < W.heap.size := by obtain ⟨m, hm⟩ := k5; exact DataW.trod_lt m _ _ _ hm
  obtain ⟨y5, cs5, rfl, hk5, w5⟩ := rdNode.agg Tryd.underlying46 (hval 5 46 v5 rfl rfl) h5 hz5
  obtain ⟨cl5, rfl⟩ : ∃ l : List Value, cs5 = l.toArray := ⟨cs5.toList, by simp⟩
  simp only [List.toList_toArray] at hk5
  obtain rfl := kNode_open hk5
  clear hA0 hval0 hsz0
  have h := pure_VerifySpoilt y0 y1 y2 y3 y4 y5 w0 w1 w2 w3 w4 w5
  refine (law17_VerifySpoilt.calls y0 _ _ y1 y2 y3.f0 y3.f1 y3.f2 y3.f3.f0 y3.f3.f1 y4 y5.f0 y5.f1.f0 y5.f1.f1 true W (P.laidT_of_met hL) g1 l1 h).mono fun e W' ⟨he, bel0⟩ => ?_
  have bel := bel0
  subst he
  exact ⟨_, rfl, _, _, _, [], _, [], hW', trodAll_mk1 (shut_bool Tryd.underlying4 _), (trodAll_cons_mk (Below.trod laidOut (by kernel_rfl) (of_decide_eq_true (by kernel_rfl)) k0 bel lt0) (trodAll_cons_mk (Below.trod laidOut (by kernel_rfl) (of_decide_eq_true (by kernel_rfl)) k1 bel lt1) (trodAll_cons_mk (Below.trod laidOut (by kernel_rfl) (of_decide_eq_true (by kernel_rfl)) k2 bel lt2) (trodAll_cons_mk (Below.trod laidOut (by kernel_rfl) (of_decide_eq_true (by kernel_rfl)) k3 bel lt3) (trodAll_cons_mk (Below.trod laidOut (by kernel_rfl) (of_decide_eq_true (by kernel_rfl)) k4 bel lt4) (trodAll_cons_mk (Below.trod laidOut (by kernel_rfl) (of_decide_eq_true (by kernel_rfl)) k5 bel lt5) trodAll_mk0)))))), rfl, bel.frame _, fun h => by cases h⟩
theorem over : Rows.verifySpoiltRow.holds Tryd.pinned (OpenSpec.ofChange Rows.verifySpoiltSpec) :=
  OpenClaim.holds_of_wide 11 Tryd.f11 rfl rfl rfl rfl rfl rfl rfl ⟨rfl, rfl, rfl, rfl, rfl⟩ rfl rfl rfl rfl rfl (by kernel_rfl) Tryd.func11 (by kernel_rfl)
    (of_decide_eq_true (by kernel_rfl)) (by unfold Func.isWrapper; first | (rw [if_pos (by decide +kernel)]; kernel_rfl) | (rw [if_neg (by decide +kernel)]; exact ⟨rfl, rfl⟩))
    (fun os started H enc _ => lifted os started H enc)
set_option maxRecDepth 100000 in
theorem proved : Rows.VerifySpoiltCardSaid :=
  Claim7.holds_tied_plain_at .later [] [.data, .data, .pinned] true (true, "4f2cffd12862c0dd414eb8a94792080809aa0e0cec70df79135b296e27b5c26d") false
    over (fun _ h => by cases h) (by kernel_rfl) (fun _ h => by cases h) verifySpoilt_row_tie rfl ⟨rfl, rfl⟩ (by kernel_rfl) rfl
    (fun f fn hf hfn => by
      obtain rfl : f = 11 := Option.some.inj ((show Tryd.prog.funcNamed "paymaster/paymasterlaw17.VerifySpoilt" = some 11 by kernel_rfl).symm.trans hf) |>.symm
      obtain rfl : fn = Tryd.f11 := (Option.some.inj (Tryd.func11.symm.trans hfn)).symm
      exact ⟨by kernel_rfl, fun j t ht => by
        rw [Tryd.params11] at ht
        have h3 : t ∈ [3, 22, 50, 36, 5, 46] := by
          have := List.mem_of_getElem? (l := [3, 22, 50, 36, 5, 46]) (i := j) (a := t) (by simpa using ht)
          exact this
        simp only [List.mem_cons, List.not_mem_nil, or_false] at h3
        rcases h3 with rfl | rfl | rfl | rfl | rfl | rfl
        · exact (show Tryd.prog.wantsStandIn 3 = false by kernel_rfl)
        · exact (show Tryd.prog.wantsStandIn 22 = false by kernel_rfl)
        · exact (show Tryd.prog.wantsStandIn 50 = false by kernel_rfl)
        · exact (show Tryd.prog.wantsStandIn 36 = false by kernel_rfl)
        · exact (show Tryd.prog.wantsStandIn 5 = false by kernel_rfl)
        · exact (show Tryd.prog.wantsStandIn 46 = false by kernel_rfl)
      ⟩)
    (by kernel_rfl)
#print axioms proved
end Go.Proofs.YtfcodmdckcihmaaDoor.verifySpoilt
namespace Go.Proofs.YtfcodmdckcihmaaDoor
/-- The row, under a short name, for the claim. -/
theorem verifySpoilt_holds : Rows.VerifySpoiltCardSaid := verifySpoilt.proved
end Go.Proofs.YtfcodmdckcihmaaDoor
