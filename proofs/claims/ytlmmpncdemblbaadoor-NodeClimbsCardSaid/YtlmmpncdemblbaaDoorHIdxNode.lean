-- Hand-written contracts of this workplace, filled for this seat by a program.
import Derived.Test.YtlmmpncdemblbaaDoorPx0
import Derived.Test.YtlmmpncdemblbaaDoorPn0
namespace Go.Proofs.YtlmmpncdemblbaaDoor.P
open Go.RowKit Go.Proofs.YtlmmpncdemblbaaDoorW.PrintWords Go.Proofs.YtlmmpncdemblbaaDoorW.PrintLast Go.Proofs.YtlmmpncdemblbaaDoorW.PrintMore
set_option linter.unusedVariables false
set_option linter.unusedSimpArgs false
set_option linter.unnecessarySimpa false

abbrev nodeV (n : SNode) : Value := .agg #[.string n.f0, .int .u64 n.f1.f0, .int .u64 n.f1.f1]
/-- A function value that tells of each node what p tells, and makes new memory alone. -/
def TellsNode (F : Nat) (caps : Array Value) (p : SNode → Bool) (w : World) : Prop :=
  ∀ (W : World) (x : SNode), Below w.heap.size w W → Calls Tryd.prog F (#[nodeV x] ++ caps) W fun e W' => e = .returned (.bool (p x)) ∧ Below W.heap.size W W'
/-- The first place at which p tells yes; -1: none. -/
def idxOf {α : Type} (p : α → Bool) (l : List α) : Int := match l.findIdx? p with | some i => (i : Int) | none => -1
theorem idxOf_hit {α : Type} (p : α → Bool) (l : List α) (k : Nat) (hk : k < l.length) (h : (l.take k).all (fun x => !p x) = true) (hp : p l[k] = true) : idxOf p l = (k : Int) := by
  unfold idxOf
  have : l.findIdx? p = some k := by
    rw [List.findIdx?_eq_some_iff_getElem]
    refine ⟨hk, hp, fun j hj => ?_⟩
    have := List.all_eq_true.1 h l[j] (List.mem_take_iff_getElem.2 ⟨j, by omega, rfl⟩)
    simpa using this
  rw [this]
theorem idxOf_miss {α : Type} (p : α → Bool) (l : List α) (h : l.all (fun x => !p x) = true) : idxOf p l = -1 := by
  unfold idxOf
  have : l.findIdx? p = none := by
    rw [List.findIdx?_eq_none_iff]
    intro x hx
    have := List.all_eq_true.1 h x hx
    simpa using this
  rw [this]
theorem idxOf_any {α : Type} (p : α → Bool) (l : List α) : decide (0 ≤ idxOf p l) = l.any p := by
  unfold idxOf
  cases h : l.findIdx? p with
  | some i =>
    have := List.findIdx?_eq_some_iff_getElem.1 h
    obtain ⟨hi, hp, _⟩ := this
    have h1 : l.any p = true := List.any_eq_true.2 ⟨l[i], List.getElem_mem hi, hp⟩
    rw [h1]; simp
  | none =>
    have := List.findIdx?_eq_none_iff.1 h
    have h1 : l.any p = false := by
      rw [List.any_eq_false]; intro x hx; simpa using this x hx
    rw [h1]; simp
theorem all_take_snoc {α : Type} (q : α → Bool) (l : List α) (k : Nat) (hk : k < l.length) (h : (l.take k).all q = true) (hq : q l[k] = true) : (l.take (k + 1)).all q = true := by
  rw [List.take_succ_eq_append_getElem hk, List.all_append, h]; simp [hq]
theorem rd_TNode_at (l : List SNode) (k : Nat) (hk : k < l.length) : rd_TNode l (k : Int) = l[k] := by simp [rd_TNode, hk]

set_option maxRecDepth 100000 in
set_option maxHeartbeats 1000000 in
theorem idxNode.calls (F : Nat) (cap0 : Value) (p : SNode → Bool) (A : Option Addr) (c : Nat) (l : List SNode) (w : World) (hr : Kd.C kNode w A l.length l) (hcf : ∀ (args : Array Value) (W : World), Sem.run Tryd.prog (callFunc F args) W = .ok (.enter F args) W) (hp : TellsNode F #[cap0] p w) :
    Calls Tryd.prog 91 #[.slice A l.length c, .func (.func F) #[] #[cap0]] w fun e w' => e = .returned (.int .i64 (idxOf p l)) ∧ Below w.heap.size w w' := by
  have hm : l.length ≤ 9223372036854775807 := Kd.C_max hr
  have HR := Aside0.mk hr
  have HP := Aside0.mk hp
  clear hr hp
  go_enter Tryd.func91, Tryd.ntmps91
  go_wp2
  go_loopw [8] (fun v wr => ∃ k : Nat, v = .int .i64 k ∧ k ≤ l.length ∧ Aside0 ((l.take k).all (fun x => !p x) = true) ∧ Aside0 (Below w.heap.size w wr)) (fun v _ => l.length - (intOf v).toNat)
  case atStart => exact ⟨0, rfl, Nat.zero_le _, ⟨by simp⟩, ⟨Below.refl _ _⟩⟩
  case round =>
    obtain ⟨k, rfl, hk, HA, HB⟩ := hrel
    by_cases hlt : k < l.length
    · obtain ⟨ad, e, hx0, hx1, hx2⟩ := at_TNode (Kd.C_below HR.out HB.out) (k : Int) (by omega) (by omega)
      cases e
      rw [rd_TNode_at l k hlt] at hx0 hx1 hx2
      rw [Int.toNat_natCast] at hx0 hx1 hx2
      go_wp2_with fail
      refine (HP.out _ l[k] HB.out).mono ?_
      rintro e w1 ⟨rfl, hb⟩
      have hB1 := below_then HB.out HB.out.size hb
      have HB1 := Aside0.mk hB1
      clear hB1 hb
      cases hpk : p l[k] with
      | true =>
        have HF := Aside0.mk (idxOf_hit p l k hlt HA.out hpk)
        clear hpk
        go_wp2
        go_ret
        exact ⟨by rw [HF.out]; rfl, HB1.out⟩
      | false =>
        have HA1 := Aside0.mk (all_take_snoc (fun x => !p x) l k hlt HA.out (by simp [hpk]))
        clear hpk
        go_wp2
        go_roundw
        case rel => exact ⟨k + 1, by go_num, by omega, HA1, HB1⟩
        case measure => simp [intOf]; omega
    · have HF := Aside0.mk (idxOf_miss p l (by have := HA.out; rwa [List.take_of_length_le (by omega)] at this))
      go_wp2
      go_ret
      exact ⟨by rw [HF.out]; rfl, HB.out⟩

set_option maxRecDepth 100000 in
set_option maxHeartbeats 1000000 in
theorem anyNode.calls (F : Nat) (cap0 : Value) (p : SNode → Bool) (A : Option Addr) (c : Nat) (l : List SNode) (w : World) (hr : Kd.C kNode w A l.length l) (hcf : ∀ (args : Array Value) (W : World), Sem.run Tryd.prog (callFunc F args) W = .ok (.enter F args) W) (hp : TellsNode F #[cap0] p w) :
    Calls Tryd.prog 66 #[.slice A l.length c, .func (.func F) #[] #[cap0]] w fun e w' => e = .returned (.bool (l.any p)) ∧ Below w.heap.size w w' := by
  have HF := Aside0.mk (idxOf_any p l)
  have HCF := Aside0.mk hcf
  clear hcf
  have HR := Aside0.mk hr
  have HP := Aside0.mk hp
  clear hr hp
  go_enter Tryd.func66, Tryd.ntmps66
  go_wp2_with fail
  refine (idxNode.calls F cap0 p A c l _ HR.out HCF.out HP.out).mono ?_
  rintro e w1 ⟨rfl, hb⟩
  have HB1 := Aside0.mk hb
  clear hb
  go_wp2
  go_ret
  exact ⟨by rw [← HF.out]; rfl, HB1.out⟩

end Go.Proofs.YtlmmpncdemblbaaDoor.P
