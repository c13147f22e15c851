-- Several texts of this workplace as one.
import Derived.Test.YtfcodmdckcihmaaDoorZTreeOther1
import Derived.Test.YtfcodmdckcihmaaDoorProg
import Derived.Deep.OwnRows
import Derived.Laws.Rows
import Derived.Test.YtfcodmdckcihmaaDoorRows
import Derived.Test.YtfcodmdckcihmaaDoorCards
import Derived.Test.YtfcodmdckcihmaaDoorTie
namespace Go.Proofs.YtfcodmdckcihmaaDoor.P
open Go.RowKit Go.Proofs.YtfcodmdckcihmaaDoorW.PrintWords Go.Proofs.YtfcodmdckcihmaaDoorW.PrintLast Go.Proofs.YtfcodmdckcihmaaDoorW.PrintMore
set_option linter.unusedVariables false
set_option linter.unusedSimpArgs false
set_option linter.unnecessarySimpa false
structure STree where
 wd : Int
 leaves : List SLeaf
 rows : List (List SNode)
structure TreeAt (W : World) (a : Nat) (T : STree) (LA : Option Addr) (cl : Nat) (va : Addr) (cv : Nat) : Prop where
 box : W.heap[a]? = some (.cells #[.int .i64 T.wd, .slice LA T.leaves.length cl, .slice (some va) T.rows.length cv] 105 (0, 0))
 lcap : T.leaves.length ≤ cl
 lread : Kd.C kLeaf W LA T.leaves.length T.leaves
 lmin : 1 ≤ T.leaves.length
 lmax : T.leaves.length ≤ 1024
 vcap : T.rows.length ≤ cv
 vmin : 1 ≤ T.rows.length
 vmax : T.rows.length ≤ 11
 rows : ∀ i, (h : i < T.rows.length) → ∃ ra rc, W.cell? (va.add (i * 2)) = some (.slice (some ra) T.rows[i].length rc) ∧ W.cell? ⟨(va.add (i * 2)).block, (va.add (i * 2)).off + 1, none⟩ = some (.int .i64 (i : Int)) ∧ T.rows[i].length ≤ rc ∧ Kd.C kNode W (some ra) T.rows[i].length T.rows[i] ∧ 1 ≤ T.rows[i].length ∧ T.rows[i].length ≤ 1024
abbrev nodeZ : SNode := ⟨⟨#[]⟩, ⟨0, 0⟩⟩
def TreeR (a : Nat) (T : STree) (W : World) : Prop := ∃ LA cl va cv, TreeAt W a T LA cl va cv
theorem TreeR.below {W W' : World} {a : Nat} {T : STree} (h : TreeR a T W) (hb : Below W.heap.size W W') : TreeR a T W' := by
 obtain ⟨LA, cl, va, cv, h⟩ := h
 refine ⟨LA, cl, va, cv, blk_below h.box hb, h.lcap, Kd.C_below h.lread hb, h.lmin, h.lmax, h.vcap, h.vmin, h.vmax, fun i hi => ?_⟩
 obtain ⟨ra, rc, h1, h1', h2, h3, h4⟩ := h.rows i hi
 exact ⟨ra, rc, pw_cell_below hb h1, pw_cell_below hb h1', h2, Kd.C_below h3 hb, h4⟩
abbrev ptrT (a : Nat) : Value := .pointer (some ⟨a, 0, none⟩)
theorem tNone.calls (a : Nat) (T : STree) (w : World) (h : TreeR a T w) : Calls Tryd.prog 63 #[ptrT a] w fun e w' => e = .returned (.bool false) ∧ w = w' := by
 obtain ⟨LA, cl, va, cv, h⟩ := h
 have hu := Tryd.underlying105
 have h2 : w.cell? ⟨a, 2, none⟩ = some (.slice (some va) T.rows.length cv) := blk_cell h.box 2
 have h3 := h.vmin
 have b0 : ((T.rows.length : Int) == 0) = false := by simp; intro h; rw [h] at h3; simp at h3
 clear h h3
 go_enter Tryd.func63, Tryd.ntmps63
 go_wp2_with fail
 go_ret
 exact ⟨rfl, rfl⟩
theorem tHeight.calls (a : Nat) (T : STree) (w : World) (h : TreeR a T w) : Calls Tryd.prog 19 #[ptrT a] w fun e w' => e = .returned (.int .i64 ((T.rows.length : Int) - 1)) ∧ w = w' := by
 have q := aM' (tNone.calls a T w h)
 obtain ⟨LA, cl, va, cv, h⟩ := h
 have hu := Tryd.underlying105
 have h2 : w.cell? ⟨a, 2, none⟩ = some (.slice (some va) T.rows.length cv) := blk_cell h.box 2
 have h3 := h.vmin
 have h4 := h.vmax
 clear h
 go_enter Tryd.func19, Tryd.ntmps19
 go_wp2_with fail
 refine q.out.mono ?_
 rintro e w1 ⟨rfl, rfl⟩
 go_wp2
 go_ret
 exact ⟨rfl, rfl⟩
theorem rowAt.calls (ra : Addr) (l : List SNode) (rc : Nat) (p : Int) (w : World) (hr : Kd.C kNode w (some ra) l.length l) (hl : l.length ≤ 1024) (hc : l.length ≤ rc) (hp : 0 ≤ p) :
  Calls Tryd.prog 65 #[.agg #[.slice (some ra) l.length rc], .int .u64 p] w fun e w' => e = .returned (.tuple #[nodeV (l.getD p.toNat nodeZ), .bool (decide (p.toNat < l.length))]) ∧ Below w.heap.size w w' := by
 have hu := Tryd.underlying46
 have hu2 := Tryd.underlying107
 have hw : IntKind.u64.wrap ((l.length : Nat) : Int) = (l.length : Int) := wrapu64_id (by omega) (by omega)
 by_cases h : p.toNat < l.length
 ·
  obtain ⟨n, rfl⟩ := Int.eq_ofNat_of_zero_le hp
  rw [Int.toNat_natCast] at h ⊢
  obtain ⟨a1, e1, p0, p1, p2⟩ := at_TNode hr (n : Int) (by omega) (by omega)
  cases e1
  rw [rdNode_nat l n h, Int.toNat_natCast] at p0 p1 p2
  have e2 : l.getD n nodeZ = l[n] := by simp [List.getD_eq_getElem?_getD, h]
  rw [e2]
  generalize l[n] = x at p0 p1 p2 ⊢
  have f1 := pw_cell_below (below_alloc (below_alloc (Below.refl w.heap.size w) (.cells #[.slice (some ra) l.length rc] 107)) (.cells #[.string ⟨#[]⟩, .int .u64 0, .int .u64 0] 46)) p0
  have f2 := pw_cell_below (below_alloc (below_alloc (Below.refl w.heap.size w) (.cells #[.slice (some ra) l.length rc] 107)) (.cells #[.string ⟨#[]⟩, .int .u64 0, .int .u64 0] 46)) p1
  have f3 := pw_cell_below (below_alloc (below_alloc (Below.refl w.heap.size w) (.cells #[.slice (some ra) l.length rc] 107)) (.cells #[.string ⟨#[]⟩, .int .u64 0, .int .u64 0] 46)) p2
  have b0 : decide ((l.length : Int) ≤ (n : Int)) = false := decide_eq_false (by omega)
  have b1 : decide (l.length ≤ n) = false := decide_eq_false (by omega)
  have b2 : decide (n < l.length) = true := decide_eq_true h
  rw [b2]
  clear hr
  go_enter Tryd.func65, Tryd.ntmps65
  go_wp2
  refine bodyPost_ret (v := .tuple #[nodeV x, .bool true]) ?_ rfl ⟨rfl, ?_⟩
  ·
   simp [results, Tryd.results65, go_sem, hu]
  ·
   repeat (with_reducible first | exact Below.refl _ _ | apply below_alloc | refine below_set ?_ (by (try dsimp only); omega))
 ·
  obtain ⟨n, rfl⟩ := Int.eq_ofNat_of_zero_le hp
  rw [Int.toNat_natCast] at h ⊢
  have b0 : decide ((l.length : Int) ≤ (n : Int)) = true := decide_eq_true (by omega)
  have b1 : decide (l.length ≤ n) = true := decide_eq_true (by omega)
  have b2 : decide (n < l.length) = false := decide_eq_false h
  have e2 : l.getD n nodeZ = nodeZ := by simp [List.getD_eq_getElem?_getD, show l.length ≤ n by omega]
  rw [b2, e2]
  go_enter Tryd.func65, Tryd.ntmps65
  go_wp2
  refine bodyPost_ret (v := .tuple #[nodeV nodeZ, .bool false]) ?_ rfl ⟨rfl, ?_⟩
  ·
   simp [results, Tryd.results65, go_sem, hu]
  ·
   repeat (with_reducible first | exact Below.refl _ _ | apply below_alloc | refine below_set ?_ (by (try dsimp only); omega))
def nodeAtI (T : STree) (n p : Int) : SNode × Bool :=
 if 0 ≤ n ∧ n < (T.rows.length : Int) then ((T.rows.getD n.toNat []).getD p.toNat nodeZ, decide (p.toNat < (T.rows.getD n.toNat []).length)) else (nodeZ, false)
set_option maxRecDepth 100000 in
set_option maxHeartbeats 1000000 in
theorem tNode.calls (a : Nat) (T : STree) (n p : Int) (w : World) (h : TreeR a T w) (hp : 0 ≤ p) :
  Calls Tryd.prog 24 #[ptrT a, .int .i64 n, .int .u64 p] w fun e w' => e = .returned (.tuple #[nodeV (nodeAtI T n p).1, .bool (nodeAtI T n p).2]) ∧ Below w.heap.size w w' := by
 have hu := Tryd.underlying105
 have hu2 := Tryd.underlying109
 have hu3 := Tryd.underlying107
 have hu4 := Tryd.underlying46
 obtain ⟨W1, hW1⟩ : ∃ V, V = w.alloc (.cells #[.string ⟨#[]⟩, .int .u64 0, .int .u64 0] 46) := ⟨_, rfl⟩
 have hb1 : Below w.heap.size w W1 := by rw [hW1]; exact below_alloc (Below.refl _ _) _
 have hz1 : W1.heap[w.heap.size]? = some (.cells #[.string ⟨#[]⟩, .int .u64 0, .int .u64 0] 46 (0, 0)) := by rw [hW1]; exact blk_new _ _
 have h1 := h.below hb1
 have q := aM' (tNone.calls a T W1 h1)
 obtain ⟨LA, cl, va, cv, hT⟩ := h1
 have h2 : W1.cell? ⟨a, 2, none⟩ = some (.slice (some va) T.rows.length cv) := blk_cell hT.box 2
 have z0 : W1.cell? ⟨w.heap.size, 0, none⟩ = some (.string ⟨#[]⟩) := blk_cell hz1 0
 have z1 : W1.cell? ⟨w.heap.size, 1, none⟩ = some (.int .u64 0) := blk_cell hz1 1
 have z2 : W1.cell? ⟨w.heap.size, 2, none⟩ = some (.int .u64 0) := blk_cell hz1 2
 have zf : ∀ i, W1.frozen? ⟨w.heap.size, i, none⟩ = false := fun i => blk_frozen hz1 i
 have hvx := hT.vmax
 have HB1 := aM' hb1
 have HZ1 := aM' hz1
 by_cases hn : 0 ≤ n ∧ n < (T.rows.length : Int)
 ·
  obtain ⟨k, rfl⟩ := Int.eq_ofNat_of_zero_le hn.1
  have hk : k < T.rows.length := by omega
  obtain ⟨ra, rc, c0, -, hrc, hrd, -, hl2⟩ := hT.rows k hk
  have hI : nodeAtI T (k : Int) p = (T.rows[k].getD p.toNat nodeZ, decide (p.toNat < T.rows[k].length)) := by
   unfold nodeAtI; rw [if_pos hn, Int.toNat_natCast, show T.rows.getD k [] = T.rows[k] by simp [List.getD_eq_getElem?_getD, hk]]
  rw [hI]
  generalize T.rows[k] = l at c0 hrc hrd hl2 ⊢
  have HQ := aM' (rowAt.calls ra l rc p W1 hrd hl2 hrc hp)
  have b0 : decide ((k : Int) < 0) = false := decide_eq_false (by omega)
  have b1 : decide ((T.rows.length : Int) ≤ (k : Int)) = false := decide_eq_false (by omega)
  have b2 : decide (T.rows.length ≤ k) = false := decide_eq_false (by omega)
  generalize hx : l.getD p.toNat nodeZ = x at HQ ⊢
  generalize hy : decide (p.toNat < l.length) = y at HQ ⊢
  clear hn hx hy hI hrd hl2 hT h hb1 hz1
  go_enter Tryd.func24, Tryd.ntmps24
  go_wp2_with fail
  rw [← hW1]
  clear hW1
  refine q.out.mono ?_
  rintro e w1 ⟨rfl, rfl⟩
  go_wp2_with fail
  refine HQ.out.mono ?_
  rintro e w2 ⟨rfl, hb⟩
  have hz2 := blk_below HZ1.out hb
  have y0 : w2.cell? ⟨w.heap.size, 0, none⟩ = some (.string ⟨#[]⟩) := blk_cell hz2 0
  have y1 : w2.cell? ⟨w.heap.size, 1, none⟩ = some (.int .u64 0) := blk_cell hz2 1
  have y2 : w2.cell? ⟨w.heap.size, 2, none⟩ = some (.int .u64 0) := blk_cell hz2 2
  have yf : ∀ i, w2.frozen? ⟨w.heap.size, i, none⟩ = false := fun i => blk_frozen hz2 i
  have HB2 := aM' (HB1.out.trans (hb.mono HB1.out.size))
  clear hb hz2
  go_wp2
  refine bodyPost_ret (v := .tuple #[nodeV x, .bool y]) ?_ rfl ⟨rfl, ?_⟩
  ·
   simp [results, Tryd.results24, go_sem, hu4, y0, y1, y2]
  ·
   exact below_set (below_set (below_set HB2.out (Nat.le_refl _)) (Nat.le_refl _)) (Nat.le_refl _)
 ·
  have hI : nodeAtI T n p = (nodeZ, false) := by unfold nodeAtI; rw [if_neg hn]
  rw [hI]
  by_cases h0 : n < 0
  ·
   have b0 : decide (n < 0) = true := decide_eq_true h0
   clear hn hI hT h hb1 hz1
   go_enter Tryd.func24, Tryd.ntmps24
   go_wp2_with fail
   rw [← hW1]
   clear hW1
   refine q.out.mono ?_
   rintro e w1 ⟨rfl, rfl⟩
   go_wp2
   refine bodyPost_ret (v := .tuple #[nodeV nodeZ, .bool false]) ?_ rfl ⟨rfl, ?_⟩
   ·
    simp [results, Tryd.results24, go_sem, hu4, z0, z1, z2]
   ·
    exact below_set (below_set (below_set HB1.out (Nat.le_refl _)) (Nat.le_refl _)) (Nat.le_refl _)
  ·
   obtain ⟨k, rfl⟩ := Int.eq_ofNat_of_zero_le (show 0 ≤ n by omega)
   have b0 : decide ((k : Int) < 0) = false := decide_eq_false h0
   have b1 : decide ((T.rows.length : Int) ≤ (k : Int)) = true := decide_eq_true (by omega)
   have b2 : decide (T.rows.length ≤ k) = true := decide_eq_true (by omega)
   clear hn hI hT h hb1 hz1
   go_enter Tryd.func24, Tryd.ntmps24
   go_wp2_with fail
   rw [← hW1]
   clear hW1
   refine q.out.mono ?_
   rintro e w1 ⟨rfl, rfl⟩
   go_wp2
   refine bodyPost_ret (v := .tuple #[nodeV nodeZ, .bool false]) ?_ rfl ⟨rfl, ?_⟩
   ·
    simp [results, Tryd.results24, go_sem, hu4, z0, z1, z2]
   ·
    exact below_set (below_set (below_set HB1.out (Nat.le_refl _)) (Nat.le_refl _)) (Nat.le_refl _)
abbrev leafV (l : SLeaf) : Value := .agg #[.bool l.f0, .string l.f1, .string l.f2, .int .u64 l.f3.f0, .int .u64 l.f3.f1]
theorem leafInfo : (Tryd.prog.info? 36).map (fun i => (i.zero, i.size, i.bytes)) = some (some (.agg #[.bool false, .string ⟨#[]⟩, .string ⟨#[]⟩, .int .u64 0, .int .u64 0]), 5, 56) := by kernel_rfl
def cellsL : List SLeaf → List Value
 | [] => []
 | x :: l => .bool x.f0 :: .string x.f1 :: .string x.f2 :: .int .u64 x.f3.f0 :: .int .u64 x.f3.f1 :: cellsL l
theorem cellsL_len : ∀ l, (cellsL l).length = l.length * 5
 | [] => rfl
 | x :: l => by simp [cellsL, cellsL_len l]; omega
theorem cellsL_get : ∀ (l : List SLeaf) (j i : Nat) (p : SLeaf), l[j]? = some p → i < 5 → (cellsL l)[j * 5 + i]? = [Value.bool p.f0, .string p.f1, .string p.f2, .int .u64 p.f3.f0, .int .u64 p.f3.f1][i]?
 | [], j, i, p, h, _ => by simp at h
 | x :: l, 0, i, p, h, hi => by
  obtain rfl := Option.some.inj h
  rw [cellsL, Nat.zero_mul, Nat.zero_add]
  match i, hi with
  | 0, _ => rfl
  | 1, _ => rfl
  | 2, _ => rfl
  | 3, _ => rfl
  | 4, _ => rfl
 | x :: l, j + 1, i, p, h, hi => by
  have h' : l[j]? = some p := by simpa using h
  rw [cellsL, show (j + 1) * 5 + i = (j * 5 + i) + 5 by omega]
  simp only [List.getElem?_cons_succ]
  exact cellsL_get l j i p h' hi
theorem oneL : ∀ l, ∀ u ∈ cellsL l, u.oneCell' = true
 | [], u, h => by cases h
 | x :: l, u, h => by
  simp only [cellsL, List.mem_cons] at h
  rcases h with rfl | rfl | rfl | rfl | rfl | h
  ·
   rfl
  ·
   rfl
  ·
   rfl
  ·
   rfl
  ·
   rfl
  ·
   exact oneL l u h
theorem ownLeaves_C {w : World} {base g n cap : Nat} {xs : List SLeaf} (h : w.ownsRow base 36 5 (.slice (some ⟨g, 0, none⟩) n cap) n (cellsL xs)) : xs.length = n ∧ n ≤ cap ∧ Kd.C kLeaf w (some ⟨g, 0, none⟩) n xs := by
 obtain ⟨hlen, h⟩ := h
 rw [cellsL_len] at hlen
 have hl : xs.length = n := by omega
 rcases h with ⟨h, _⟩ | ⟨g', cap', cur, hv, hb, hg, hcap, hmax, hsz, htk⟩
 ·
  cases h
 ·
  simp only [Value.slice.injEq, Option.some.injEq, Addr.mk.injEq] at hv
  obtain ⟨⟨rfl, -⟩, -, rfl⟩ := hv
  refine ⟨hl, hcap, hl, by unfold maxLen at hmax; omega, fun h0 => ⟨_, rfl, fun j p hj => ?_⟩⟩
  refine ⟨_, rfl, kLeaf_mk w p, fun i u hu => ?_⟩
  have hi : i < 5 := by
   rcases Nat.lt_or_ge i 5 with h | h
   ·
    exact h
   ·
    simp [h] at hu
  have hjn : j < xs.length := (List.getElem?_eq_some_iff.1 hj).1
  have e : kLeaf.sz = 5 := rfl
  have ea : ∀ n, (⟨g, 0, none⟩ : Addr).add n = ⟨g, n, none⟩ := fun n => by unfold Addr.add; split <;> simp_all
  rw [e, ea, blk_cell hg]
  have h1 := cellsL_get xs j i p hj hi
  rw [← htk, List.getElem?_take, if_pos (by omega)] at h1
  rw [hu] at h1
  simpa using h1
theorem leaves_news {W : World} {ad : Addr} {l : List SLeaf} (h : Kd.C kLeaf W (some ad) l.length l) : ∀ j u, (cellsL l)[j]? = some u → W.cell? (ad.add j) = some u := by
 intro j u hu
 have hj : j < l.length * 5 := by
  have := (List.getElem?_eq_some_iff.1 hu).1
  rwa [cellsL_len] at this
 obtain ⟨k, i, rfl, hi⟩ : ∃ k i, j = k * 5 + i ∧ i < 5 := ⟨j / 5, j % 5, by omega, Nat.mod_lt _ (by decide)⟩
 have hk : k < l.length := by omega
 rw [cellsL_get l k i l[k] (List.getElem?_eq_getElem hk) hi] at hu
 obtain ⟨a1, e1, p0, p1, p2, p3, p4⟩ := at_TLeaf h (k : Int) (by omega) (by omega)
 cases e1
 have e3 : rd_TLeaf l (k : Int) = l[k] := by rw [rd_TLeaf, Int.toNat_natCast]; simp [List.getD_eq_getElem?_getD, hk]
 rw [e3, Int.toNat_natCast] at p0 p1 p2 p3 p4
 match i, hi with
 | 0, _ => simp at hu; rw [← hu]; exact p0
 | 1, _ => simp at hu; rw [← hu, add_field _ _ 1 (by omega)]; exact p1
 | 2, _ => simp at hu; rw [← hu, add_field _ _ 2 (by omega)]; exact p2
 | 3, _ => simp at hu; rw [← hu, add_field _ _ 3 (by omega)]; exact p3
 | 4, _ => simp at hu; rw [← hu, add_field _ _ 4 (by omega)]; exact p4
set_option maxRecDepth 100000 in
theorem cloneL.calls (ad : Addr) (c : Nat) (l : List SLeaf) (w : World) (hr : Kd.C kLeaf w (some ad) l.length l) (hl : 1 ≤ l.length) (hm : l.length ≤ 1024) :
  Calls Tryd.prog 57 #[.slice (some ad) l.length c] w fun e w' => ∃ g cap, e = .returned (.slice (some ⟨g, 0, none⟩) l.length cap) ∧ w'.ownsRow w.heap.size 36 5 (.slice (some ⟨g, 0, none⟩) l.length cap) l.length (cellsL l) ∧ Below w.heap.size w w' ∧ g < w'.heap.size := by
 obtain ⟨i0, hi, hz0, hz1, hz2⟩ := info_parts leafInfo
 have HR := aM' hr
 have HM := aM' hm
 have HL := aM' hl
 clear hr hm hl
 have hu := Tryd.underlying22
 have qT : ∀ wx : World, (binOp .eql 22 (.slice (some ad) l.length c) (.slice none 0 0)).run Tryd.prog wx = .ok (.bool false) wx := fun wx => Lib.run_eql_slice_nil wx _ _ _ _ _ _ _ hu
 go_enter Tryd.func57, Tryd.ntmps57
 go_wp2_with (at_builtin; refine wpList_append_own _ rfl _ _ 22 rfl w.heap.size 36 i0 (.agg #[.bool false, .string ⟨#[]⟩, .string ⟨#[]⟩, .int .u64 0, .int .u64 0]) 5 56 Tryd.underlying22 hi hz0 hz1 hz2 rfl (by decide) _ 0 [] rfl (World.ownsRow_made w #[] 0 (Nat.le_refl _) (by decide) rfl) ad l.length c (cellsL l) rfl (cellsL_len l) ?c2 ?c3 ?c4 ?c5 ?c6 ?_)
 case c2 => exact leaves_news (Kd.C_below HR.out (below_alloc (Below.refl _ _) _))
 case c3 => exact oneL l
 case c4 => have := HM.out; unfold maxLen; omega
 case c5 => have := HM.out; omega
 case c6 => simp
 intro v' w' hown hgr hnil
 obtain ⟨g, cap, rfl, -, hg⟩ := hown.form HL.out
 have HO := aM' hown
 have HG := aM' hgr
 have HL2 := aM' hg
 clear hown hgr hnil hg
 go_wp2
 go_ret
 refine ⟨g, cap, rfl, HO.out, ?_, HL2.out⟩
 have hb := HG.out
 refine ⟨hb.os, hb.tape, hb.output, Nat.le_trans (by simp) hb.size, fun i hi => ?_⟩
 have h1 := hb.block i (by simp; omega) (by intro e; have := Option.some.inj e; dsimp only at this; omega)
 rw [h1]
 exact (below_alloc (Below.refl w.heap.size w) (.cells #[] 36)).block i hi
attribute [local go_sem] sel_true
def topI (T : STree) : SNode := (T.rows.getD (T.rows.length - 1) []).headD nodeZ
abbrev rootV (T : STree) : Value := .agg #[.string (topI T).f0, .int .u64 (topI T).f1.f0, .int .u64 (topI T).f1.f1, .int .i64 ((T.rows.length : Int) - 1)]
structure TrS (w0 W : World) (x : SNode) (l : Nat → Bool) (γ : Nat) : Prop where
 hB : Below w0.heap.size w0 W
 hg : l 12 = true → w0.heap.size ≤ γ ∧ W.heap[γ]? = some (.cells (if l 13 = true then #[.string x.f0, .int .u64 x.f1.f0, .int .u64 x.f1.f1] else #[.string ⟨#[]⟩, .int .u64 0, .int .u64 0]) 46 (0, 0))
 ho : l 13 = true → l 12 = true
theorem TrS.alloc {w0 W : World} {x : SNode} {l : Nat → Bool} {γ : Nat} (h : TrS w0 W x l γ) (hl : l 12 = false) : TrS w0 (W.alloc (.cells #[.string ⟨#[]⟩, .int .u64 0, .int .u64 0] 46 (0, 0))) x (upd l 12) W.heap.size := by
 have h13 : l 13 = false := by
  cases hx : l 13 with
  | false => rfl
  | true => rw [h.ho hx] at hl; cases hl
 have e2 : upd l 12 13 = l 13 := rfl
 refine ⟨below_alloc h.hB _, ?_, ?_⟩
 ·
  rw [e2, h13]; exact fun _ => ⟨h.hB.size, blk_new W _⟩
 ·
  exact fun _ => rfl
theorem put3z {W : World} {g : Nat} {z : SNode} (h : W.heap[g]? = some (.cells #[.string z.f0, .int .u64 z.f1.f0, .int .u64 z.f1.f1] 46 (0, 0))) (x : SNode) : (((W.setCell ⟨g, 0, none⟩ (.string x.f0)).setCell ⟨g, 1, none⟩ (.int .u64 x.f1.f0)).setCell ⟨g, 2, none⟩ (.int .u64 x.f1.f1)).heap[g]? = some (.cells #[.string x.f0, .int .u64 x.f1.f0, .int .u64 x.f1.f1] 46 (0, 0)) :=
 blk_put (cs' := #[.string x.f0, .int .u64 x.f1.f0, .int .u64 x.f1.f1]) (blk_put (cs' := #[.string x.f0, .int .u64 x.f1.f0, .int .u64 z.f1.f1]) (blk_put (cs' := #[.string x.f0, .int .u64 z.f1.f0, .int .u64 z.f1.f1]) h 0 (.string x.f0) rfl) 1 (.int .u64 x.f1.f0) rfl) 2 (.int .u64 x.f1.f1) rfl
theorem TrS.store {w0 W : World} {x : SNode} {l : Nat → Bool} {γ : Nat} (h : TrS w0 W x l γ) (ha : l 12 = true) (hl : l 13 = false) : TrS w0 (((W.setCell ⟨γ, 0, none⟩ (.string x.f0)).setCell ⟨γ, 1, none⟩ (.int .u64 x.f1.f0)).setCell ⟨γ, 2, none⟩ (.int .u64 x.f1.f1)) x (upd l 13) γ := by
 obtain ⟨h1, h2⟩ := h.hg ha
 rw [hl, if_neg (by decide)] at h2
 refine ⟨below_set (below_set (below_set h.hB h1) h1) h1, ?_, fun _ => ha⟩
 exact fun _ => ⟨h1, put3z (z := ⟨⟨#[]⟩, ⟨0, 0⟩⟩) h2 x⟩
theorem TrS.other {w0 W W' : World} {x : SNode} {l : Nat → Bool} {γ : Nat} (h : TrS w0 W x l γ) (i : Nat) (hi : i ≠ 12) (hi2 : i ≠ 13) (hb : Below W.heap.size W W') : TrS w0 W' x (upd l i) γ := by
 have e1 : upd l i 12 = l 12 := by unfold upd; rw [if_neg (fun e => hi e.symm)]
 have e2 : upd l i 13 = l 13 := by unfold upd; rw [if_neg (fun e => hi2 e.symm)]
 refine ⟨h.hB.trans (hb.mono h.hB.size), ?_, ?_⟩
 ·
  rw [e1, e2]; exact fun hl => ⟨(h.hg hl).1, blk_below (h.hg hl).2 hb⟩
 ·
  rw [e1, e2]; exact h.ho
structure TrS4 (w W1 W2 W : World) (x : SNode) (m : Int) (l : Nat → Bool) : Prop where
 hB : l 7 = false → Below W1.heap.size W1 W
 hC : l 7 = false → Below W2.heap.size W2 W
 hz : W.heap[w.heap.size]? = some (.cells (if l 7 = true then #[.string x.f0, .int .u64 x.f1.f0, .int .u64 x.f1.f1, .int .i64 m] else #[.string ⟨#[]⟩, .int .u64 0, .int .u64 0, .int .i64 0]) 41 (0, 0))
 hD : Below w.heap.size w W
 ho : l 7 = true → ∀ i, i < 7 → l i = true
theorem TrS4.no {w W1 W2 W : World} {x : SNode} {m : Int} {l : Nat → Bool} (h : TrS4 w W1 W2 W x m l) {i : Nat} (hi : i < 7) (hl : l i = false) : l 7 = false := by
 cases h7 : l 7 with
 | false => rfl
 | true => rw [h.ho h7 i hi] at hl; cases hl
theorem TrS4.other {w W1 W2 W : World} {x : SNode} {m : Int} {l : Nat → Bool} (h : TrS4 w W1 W2 W x m l) (i : Nat) (hi : i < 7) (hl : l i = false) : TrS4 w W1 W2 W x m (upd l i) := by
 have h7 := h.no hi hl
 have e : upd l i 7 = l 7 := by unfold upd; rw [if_neg (by omega)]
 refine ⟨fun _ => h.hB h7, fun _ => h.hC h7, by rw [e]; exact h.hz, h.hD, fun h' => by rw [e, h7] at h'; cases h'⟩
theorem TrS4.store {w W1 W2 W : World} {x : SNode} {m : Int} {l : Nat → Bool} (h : TrS4 w W1 W2 W x m l) (h7 : l 7 = false) (ha : ∀ i, i < 7 → l i = true) :
  TrS4 w W1 W2 ((((W.setCell ⟨w.heap.size, 0, none⟩ (.string x.f0)).setCell ⟨w.heap.size, 1, none⟩ (.int .u64 x.f1.f0)).setCell ⟨w.heap.size, 2, none⟩ (.int .u64 x.f1.f1)).setCell ⟨w.heap.size, 3, none⟩ (.int .i64 m)) x m (upd l 7) := by
 have hz := h.hz
 rw [h7, if_neg (by decide)] at hz
 have e : upd l 7 7 = true := rfl
 refine ⟨(fun h' => by rw [e] at h'; cases h'), (fun h' => by rw [e] at h'; cases h'), ?_, below_set (below_set (below_set (below_set h.hD (Nat.le_refl _)) (Nat.le_refl _)) (Nat.le_refl _)) (Nat.le_refl _), fun _ i hi => by unfold upd; rw [if_neg (by omega)]; exact ha i hi⟩
 rw [e, if_pos rfl]
 exact blk_put (cs' := #[.string x.f0, .int .u64 x.f1.f0, .int .u64 x.f1.f1, .int .i64 m]) (blk_put (cs' := #[.string x.f0, .int .u64 x.f1.f0, .int .u64 x.f1.f1, .int .i64 0]) (blk_put (cs' := #[.string x.f0, .int .u64 x.f1.f0, .int .u64 0, .int .i64 0]) (blk_put (cs' := #[.string x.f0, .int .u64 0, .int .u64 0, .int .i64 0]) hz 0 (.string x.f0) rfl) 1 (.int .u64 x.f1.f0) rfl) 2 (.int .u64 x.f1.f1) rfl) 3 (.int .i64 m) rfl
set_option maxRecDepth 100000 in
set_option maxHeartbeats 1000000 in
theorem tRoot.calls (gt : Nat) (T : STree) (w : World) (h : TreeR gt T w) : Calls Tryd.prog 21 #[ptrT gt] w fun e w' => e = .returned (rootV T) ∧ Below w.heap.size w w' := by
 have hu := Tryd.underlying105
 have hu2 := Tryd.underlying109
 have hu3 := Tryd.underlying107
 have hu4 := Tryd.underlying46
 have hu5 := Tryd.underlying41
 have hT := h
 obtain ⟨W1, hW1⟩ : ∃ V, V = w.alloc (.cells #[.string ⟨#[]⟩, .int .u64 0, .int .u64 0, .int .i64 0] 41) := ⟨_, rfl⟩
 have hb1 : Below w.heap.size w W1 := by rw [hW1]; exact below_alloc (Below.refl _ _) _
 have hz1 : W1.heap[w.heap.size]? = some (.cells #[.string ⟨#[]⟩, .int .u64 0, .int .u64 0, .int .i64 0] 41 (0, 0)) := by rw [hW1]; exact blk_new _ _
 have h1 := h.below hb1
 have HT1 := aM' h1
 have HB1 := aM' hb1
 have HZ1 := aM' hz1
 obtain ⟨LA, cl, va, cv, hA⟩ := h1
 have hv1 := hA.vmin
 have hv2 := hA.vmax
 obtain ⟨ra, rc, c0, -, hrc, hrd, hl1, hl2⟩ := hA.rows (T.rows.length - 1) (by omega)
 have hbx := blk_cell hA.box 2
 obtain ⟨m, hm⟩ : ∃ m, T.rows.length = m + 1 := ⟨T.rows.length - 1, by omega⟩
 have ht : topI T = (T.rows[T.rows.length - 1]'(by omega)).headD nodeZ := by unfold topI; congr 1; simp [List.getD_eq_getElem?_getD, show T.rows.length - 1 < T.rows.length by omega]
 generalize T.rows[T.rows.length - 1]'(by omega) = lr at c0 hrc hrd hl1 hl2 ht
 rw [hm, Nat.add_sub_cancel] at c0
 rw [hm] at hbx hv2
 simp at hbx
 unfold rootV
 generalize topI T = x at ht ⊢
 have hm1 : ((T.rows.length : Int) - 1) = (m : Int) := by omega
 rw [hm1]
 obtain ⟨a1, e1, p0, p1, p2⟩ := at_TNode hrd 0 (by omega) (by omega)
 cases e1
 have e3 : rd_TNode lr 0 = x := by rw [ht]; cases lr with | nil => rfl | cons y l => rfl
 rw [e3] at p0 p1 p2
 have ea : ra.add (Int.toNat 0 * 3) = ra := by cases ra; simp [Addr.add]
 rw [ea] at p0 p1 p2
 have HC0 := aM' c0
 have HBX := aM' hbx
 have HP := aM' (And.intro p0 (And.intro p1 p2))
 have HH : Aside0 (∀ W : World, Below W1.heap.size W1 W → Calls Tryd.prog 19 #[ptrT gt] W fun e w' => e = .returned (.int .i64 (m : Int)) ∧ W = w') := ⟨fun W hb => by
  have q := tHeight.calls gt T W (HT1.out.below hb)
  rw [hm1] at q
  exact q⟩
 have q := aM' (tNone.calls gt T W1 HT1.out)
 generalize hL : lr.length = L at *
 clear h hT hb1 hz1 hA c0 hbx p0 p1 p2 hrd e3 ht hm1 hm hv1
 go_enter Tryd.func21, Tryd.ntmps21
 go_wp2_with fail
 rw [← hW1]
 clear hW1
 refine q.out.mono ?_
 rintro e w1 ⟨rfl, rfl⟩
 go_upto_region 3 with (fail)
 refine region_inv (fun l a W => ∃ γ : Nat, a = ({ tmps := #[ptrT gt, undef, .pointer (some ⟨w.heap.size, 0, none⟩), sel (l 12) (.pointer (some ⟨γ, 0, none⟩)) (undef), ptrT gt, .bool false, undef, sel (l 0) (ptrT gt) (undef), sel (l 1) (ptrT gt) (undef), sel (l 2) (.pointer (some ⟨gt, 2, none⟩)) (undef), sel (l 3) (.slice (some va) (m + 1) cv) (undef), sel (l 4) (ptrT gt) (undef), sel (l 5) (.int .i64 (m : Int)) (undef), sel (l 6) (.pointer (some (va.add (m * 2)))) (undef), sel (l 7) (.pointer (some (va.add (m * 2)))) (undef), sel (l 8) (.pointer (some (va.add (m * 2)))) (undef), sel (l 9) (.slice (some ra) L rc) (undef), sel (l 10) (.pointer (some ra)) (undef), sel (l 11) (.agg #[.string x.f0, .int .u64 x.f1.f0, .int .u64 x.f1.f1]) (undef), undef, undef, undef, undef, undef, undef, undef], defers := [] } : Act) ∧ TrS W1 W x l γ) 14 rfl rfl (by kernel_rfl) ?h0 ?hend ?hstep
 case h0 => exact ⟨0, rfl, below_drew (Below.refl _ _), (fun h => by cases h), (fun h => by cases h)⟩
 case hstep =>
  refine rg_cons (rg_cons (rg_cons (rg_cons (rg_cons (rg_cons (rg_cons (rg_cons (rg_cons (rg_cons (rg_cons (rg_cons (rg_cons (rg_cons (rg_nil) ?s0) ?s1) ?s2) ?s3) ?s4) ?s5) ?s6) ?s7) ?s8) ?s9) ?s10) ?s11) ?s12) ?s13
  case s0 =>
   refine rg_step rfl ?_
   rintro l a W ⟨γ, rfl, hI⟩ hl hd
   clear hd
   refine rg_val (v := ptrT gt) (w' := W) rfl (by go_simp) ?_
   refine ⟨γ, ?_, ?_⟩
   ·
    simp only [Act.put, List.setIfInBounds_toArray, List.set_cons_zero, List.set_cons_succ]; rfl
   ·
    exact hI.other 0 (by decide) (by decide) (Below.refl _ _)
  case s1 =>
   refine rg_step rfl ?_
   rintro l a W ⟨γ, rfl, hI⟩ hl hd
   have d0 := hd 0 (by decide)
   clear hd
   refine rg_val (v := ptrT gt) (w' := W) rfl (by go_simp) ?_
   refine ⟨γ, ?_, ?_⟩
   ·
    simp only [Act.put, List.setIfInBounds_toArray, List.set_cons_zero, List.set_cons_succ]; rfl
   ·
    exact hI.other 1 (by decide) (by decide) (Below.refl _ _)
  case s2 =>
   refine rg_step rfl ?_
   rintro l a W ⟨γ, rfl, hI⟩ hl hd
   have d1 := hd 1 (by decide)
   clear hd
   refine rg_val (v := .pointer (some ⟨gt, 2, none⟩)) (w' := W) rfl (by go_simp) ?_
   refine ⟨γ, ?_, ?_⟩
   ·
    simp only [Act.put, List.setIfInBounds_toArray, List.set_cons_zero, List.set_cons_succ]; rfl
   ·
    exact hI.other 2 (by decide) (by decide) (Below.refl _ _)
  case s3 =>
   refine rg_step rfl ?_
   rintro l a W ⟨γ, rfl, hI⟩ hl hd
   have d2 := hd 2 (by decide)
   clear hd
   have x0 := pw_cell_below hI.hB HBX.out
   refine rg_val (v := .slice (some va) (m + 1) cv) (w' := W) rfl (by go_simp) ?_
   refine ⟨γ, ?_, ?_⟩
   ·
    simp only [Act.put, List.setIfInBounds_toArray, List.set_cons_zero, List.set_cons_succ]; rfl
   ·
    exact hI.other 3 (by decide) (by decide) (Below.refl _ _)
  case s4 =>
   refine rg_step rfl ?_
   rintro l a W ⟨γ, rfl, hI⟩ hl hd
   clear hd
   refine rg_val (v := ptrT gt) (w' := W) rfl (by go_simp) ?_
   refine ⟨γ, ?_, ?_⟩
   ·
    simp only [Act.put, List.setIfInBounds_toArray, List.set_cons_zero, List.set_cons_succ]; rfl
   ·
    exact hI.other 4 (by decide) (by decide) (Below.refl _ _)
  case s5 =>
   refine rg_step rfl ?_
   rintro l a W ⟨γ, rfl, hI⟩ hl hd
   have d4 := hd 4 (by decide)
   clear hd
   refine rg_call rfl (by go_simp; exact ⟨rfl, rfl⟩) ?_
   refine (HH.out W hI.hB).mono ?_
   rintro x W' ⟨rfl, rfl⟩
   refine ⟨_, rfl, γ, ?_, ?_⟩
   ·
    simp only [Act.put, List.setIfInBounds_toArray, List.set_cons_zero, List.set_cons_succ]; rfl
   ·
    exact hI.other 5 (by decide) (by decide) (Below.refl _ _)
  case s6 =>
   refine rg_step rfl ?_
   rintro l a W ⟨γ, rfl, hI⟩ hl hd
   have d3 := hd 3 (by decide)
   have d5 := hd 5 (by decide)
   clear hd
   refine rg_val (v := .pointer (some (va.add (m * 2)))) (w' := W) rfl (by go_simp; intro h; omega) ?_
   refine ⟨γ, ?_, ?_⟩
   ·
    simp only [Act.put, List.setIfInBounds_toArray, List.set_cons_zero, List.set_cons_succ]; rfl
   ·
    exact hI.other 6 (by decide) (by decide) (Below.refl _ _)
  case s7 =>
   refine rg_step rfl ?_
   rintro l a W ⟨γ, rfl, hI⟩ hl hd
   have d6 := hd 6 (by decide)
   clear hd
   refine rg_val (v := .pointer (some (va.add (m * 2)))) (w' := W) rfl (by go_simp) ?_
   refine ⟨γ, ?_, ?_⟩
   ·
    simp only [Act.put, List.setIfInBounds_toArray, List.set_cons_zero, List.set_cons_succ]; rfl
   ·
    exact hI.other 7 (by decide) (by decide) (Below.refl _ _)
  case s8 =>
   refine rg_step rfl ?_
   rintro l a W ⟨γ, rfl, hI⟩ hl hd
   have d7 := hd 7 (by decide)
   clear hd
   refine rg_val (v := .pointer (some (va.add (m * 2)))) (w' := W) rfl (by go_simp) ?_
   refine ⟨γ, ?_, ?_⟩
   ·
    simp only [Act.put, List.setIfInBounds_toArray, List.set_cons_zero, List.set_cons_succ]; rfl
   ·
    exact hI.other 8 (by decide) (by decide) (Below.refl _ _)
  case s9 =>
   refine rg_step rfl ?_
   rintro l a W ⟨γ, rfl, hI⟩ hl hd
   have d8 := hd 8 (by decide)
   clear hd
   have x0 := pw_cell_below hI.hB HC0.out
   refine rg_val (v := .slice (some ra) L rc) (w' := W) rfl (by go_simp) ?_
   refine ⟨γ, ?_, ?_⟩
   ·
    simp only [Act.put, List.setIfInBounds_toArray, List.set_cons_zero, List.set_cons_succ]; rfl
   ·
    exact hI.other 9 (by decide) (by decide) (Below.refl _ _)
  case s10 =>
   refine rg_step rfl ?_
   rintro l a W ⟨γ, rfl, hI⟩ hl hd
   have d9 := hd 9 (by decide)
   clear hd
   refine rg_val (v := .pointer (some ra)) (w' := W) rfl (by go_simp; intro h; omega) ?_
   refine ⟨γ, ?_, ?_⟩
   ·
    simp only [Act.put, List.setIfInBounds_toArray, List.set_cons_zero, List.set_cons_succ]; rfl
   ·
    exact hI.other 10 (by decide) (by decide) (Below.refl _ _)
  case s11 =>
   refine rg_step rfl ?_
   rintro l a W ⟨γ, rfl, hI⟩ hl hd
   have d10 := hd 10 (by decide)
   clear hd
   have x0 := pw_cell_below hI.hB HP.out.1
   have x1 := pw_cell_below hI.hB HP.out.2.1
   have x2 := pw_cell_below hI.hB HP.out.2.2
   refine rg_val (v := .agg #[.string x.f0, .int .u64 x.f1.f0, .int .u64 x.f1.f1]) (w' := W) rfl (by go_simp) ?_
   refine ⟨γ, ?_, ?_⟩
   ·
    simp only [Act.put, List.setIfInBounds_toArray, List.set_cons_zero, List.set_cons_succ]; rfl
   ·
    exact hI.other 11 (by decide) (by decide) (Below.refl _ _)
  case s12 =>
   refine rg_step rfl ?_
   rintro l a W ⟨γ, rfl, hI⟩ hl hd
   clear hd
   refine rg_val (v := .pointer (some ⟨W.heap.size, 0, none⟩)) (w' := W.alloc (.cells #[.string ⟨#[]⟩, .int .u64 0, .int .u64 0] 46 (0, 0))) rfl (by go_simp) ?_
   refine ⟨W.heap.size, ?_, ?_⟩
   ·
    simp only [Act.put, List.setIfInBounds_toArray, List.set_cons_zero, List.set_cons_succ]; rfl
   ·
    exact hI.alloc hl
  case s13 =>
   refine rg_step rfl ?_
   rintro l a W ⟨γ, rfl, hI⟩ hl hd
   have d11 := hd 11 (by decide)
   have d12 := hd 12 (by decide)
   clear hd
   have hg := (hI.hg d12).2
   rw [show l 13 = false from hl, if_neg (by decide)] at hg
   have y0 := blk_cell hg 0
   have y1 := blk_cell hg 1
   have y2 := blk_cell hg 2
   have yf := fun i => blk_frozen hg i
   simp at y0 y1 y2
   refine rg_skip rfl (by go_simp; rfl) ?_
   refine ⟨γ, ?_, ?_⟩
   ·
    simp only [Act.put, List.setIfInBounds_toArray, List.set_cons_zero, List.set_cons_succ]; rfl
   ·
    exact hI.store d12 hl
 case hend =>
  rintro l a W ⟨γ, rfl, hI⟩ hall
  have e0 := hall 0 (by decide)
  have e1 := hall 1 (by decide)
  have e2 := hall 2 (by decide)
  have e3 := hall 3 (by decide)
  have e4 := hall 4 (by decide)
  have e5 := hall 5 (by decide)
  have e6 := hall 6 (by decide)
  have e7 := hall 7 (by decide)
  have e8 := hall 8 (by decide)
  have e9 := hall 9 (by decide)
  have e10 := hall 10 (by decide)
  have e11 := hall 11 (by decide)
  have e12 := hall 12 (by decide)
  have e13 := hall 13 (by decide)
  clear hall
  have hn := hI.hg e12
  rw [if_pos e13] at hn
  obtain ⟨hn0, hn1⟩ := hn
  simp only [e0, e1, e2, e3, e4, e5, e6, e7, e8, e9, e10, e11, e12, e13, sel_true]
  clear e0 e1 e2 e3 e4 e5 e6 e7 e8 e9 e10 e11 e12 e13
  have hB2 := hI.hB
  have HN := aM' hn1
  have HN0 := aM' hn0
  have HB2 := aM' hB2
  clear hI hn0 hn1 hB2
  go_upto_region 4 with (fail)
  obtain ⟨W2, rfl⟩ : ∃ V, V = W := ⟨_, rfl⟩
  refine region_inv (fun l a W => a = ({ tmps := #[ptrT gt, undef, .pointer (some ⟨w.heap.size, 0, none⟩), .pointer (some ⟨γ, 0, none⟩), ptrT gt, .bool false, undef, ptrT gt, ptrT gt, .pointer (some ⟨gt, 2, none⟩), .slice (some va) (m + 1) cv, ptrT gt, .int .i64 (m : Int), .pointer (some (va.add (m * 2))), .pointer (some (va.add (m * 2))), .pointer (some (va.add (m * 2))), .slice (some ra) L rc, .pointer (some ra), .agg #[.string x.f0, .int .u64 x.f1.f0, .int .u64 x.f1.f1], sel (l 0) (.pointer (some ⟨γ, 0, none⟩)) (undef), sel (l 1) (.string x.f0) (undef), sel (l 2) (.pointer (some ⟨γ, 1, none⟩)) (undef), sel (l 3) (.agg #[.int .u64 x.f1.f0, .int .u64 x.f1.f1]) (undef), sel (l 4) (ptrT gt) (undef), sel (l 5) (.int .i64 (m : Int)) (undef), sel (l 6) (.agg #[.string x.f0, .int .u64 x.f1.f0, .int .u64 x.f1.f1, .int .i64 (m : Int)]) (undef)], defers := [] } : Act) ∧ TrS4 w W1 W2 W x (m : Int) l) 8 rfl rfl (by kernel_rfl) ?h0 ?hend ?hstep
  case h0 => exact ⟨rfl, ⟨fun _ => HB2.out.trans ((below_drew (Below.refl _ _)).mono HB2.out.size), fun _ => below_drew (Below.refl _ _), by rw [if_neg (by decide)]; exact blk_below HZ1.out (HB2.out.trans ((below_drew (Below.refl _ _)).mono HB2.out.size)), HB1.out.trans ((HB2.out.trans ((below_drew (Below.refl _ _)).mono HB2.out.size)).mono HB1.out.size), fun h => by cases h⟩⟩
  case hstep =>
   refine rg_cons (rg_cons (rg_cons (rg_cons (rg_cons (rg_cons (rg_cons (rg_cons (rg_nil) ?s0) ?s1) ?s2) ?s3) ?s4) ?s5) ?s6) ?s7
   case s0 =>
    refine rg_step rfl ?_
    rintro l a W ⟨rfl, hI⟩ hl hd
    clear hd
    refine rg_val (v := .pointer (some ⟨γ, 0, none⟩)) (w' := W) rfl (by go_simp) ?_
    refine ⟨?_, ?_⟩
    ·
     simp only [Act.put, List.setIfInBounds_toArray, List.set_cons_zero, List.set_cons_succ]; rfl
    ·
     exact hI.other 0 (by decide) hl
   case s1 =>
    refine rg_step rfl ?_
    rintro l a W ⟨rfl, hI⟩ hl hd
    have d0 := hd 0 (by decide)
    clear hd
    have hb := hI.hC (hI.no (show 1 < 7 by decide) hl)
    have y0 := blk_cell (blk_below HN.out hb) 0
    have y1 := blk_cell (blk_below HN.out hb) 1
    have y2 := blk_cell (blk_below HN.out hb) 2
    simp at y0 y1 y2
    refine rg_val (v := .string x.f0) (w' := W) rfl (by go_simp) ?_
    refine ⟨?_, ?_⟩
    ·
     simp only [Act.put, List.setIfInBounds_toArray, List.set_cons_zero, List.set_cons_succ]; rfl
    ·
     exact hI.other 1 (by decide) hl
   case s2 =>
    refine rg_step rfl ?_
    rintro l a W ⟨rfl, hI⟩ hl hd
    clear hd
    refine rg_val (v := .pointer (some ⟨γ, 1, none⟩)) (w' := W) rfl (by go_simp) ?_
    refine ⟨?_, ?_⟩
    ·
     simp only [Act.put, List.setIfInBounds_toArray, List.set_cons_zero, List.set_cons_succ]; rfl
    ·
     exact hI.other 2 (by decide) hl
   case s3 =>
    refine rg_step rfl ?_
    rintro l a W ⟨rfl, hI⟩ hl hd
    have d2 := hd 2 (by decide)
    clear hd
    have hb := hI.hC (hI.no (show 3 < 7 by decide) hl)
    have y0 := blk_cell (blk_below HN.out hb) 0
    have y1 := blk_cell (blk_below HN.out hb) 1
    have y2 := blk_cell (blk_below HN.out hb) 2
    simp at y0 y1 y2
    refine rg_val (v := .agg #[.int .u64 x.f1.f0, .int .u64 x.f1.f1]) (w' := W) rfl (by go_simp) ?_
    refine ⟨?_, ?_⟩
    ·
     simp only [Act.put, List.setIfInBounds_toArray, List.set_cons_zero, List.set_cons_succ]; rfl
    ·
     exact hI.other 3 (by decide) hl
   case s4 =>
    refine rg_step rfl ?_
    rintro l a W ⟨rfl, hI⟩ hl hd
    clear hd
    refine rg_val (v := ptrT gt) (w' := W) rfl (by go_simp) ?_
    refine ⟨?_, ?_⟩
    ·
     simp only [Act.put, List.setIfInBounds_toArray, List.set_cons_zero, List.set_cons_succ]; rfl
    ·
     exact hI.other 4 (by decide) hl
   case s5 =>
    refine rg_step rfl ?_
    rintro l a W ⟨rfl, hI⟩ hl hd
    have d4 := hd 4 (by decide)
    clear hd
    refine rg_call rfl (by go_simp; exact ⟨rfl, rfl⟩) ?_
    refine (HH.out W (hI.hB (hI.no (show 5 < 7 by decide) hl))).mono ?_
    rintro x W' ⟨rfl, rfl⟩
    refine ⟨_, rfl, ?_, ?_⟩
    ·
     simp only [Act.put, List.setIfInBounds_toArray, List.set_cons_zero, List.set_cons_succ]; rfl
    ·
     exact hI.other 5 (by decide) hl
   case s6 =>
    refine rg_step rfl ?_
    rintro l a W ⟨rfl, hI⟩ hl hd
    have d1 := hd 1 (by decide)
    have d3 := hd 3 (by decide)
    have d5 := hd 5 (by decide)
    clear hd
    refine rg_val (v := .agg #[.string x.f0, .int .u64 x.f1.f0, .int .u64 x.f1.f1, .int .i64 (m : Int)]) (w' := W) rfl (by go_simp) ?_
    refine ⟨?_, ?_⟩
    ·
     simp only [Act.put, List.setIfInBounds_toArray, List.set_cons_zero, List.set_cons_succ]; rfl
    ·
     exact hI.other 6 (by decide) hl
   case s7 =>
    refine rg_step rfl ?_
    rintro l a W ⟨rfl, hI⟩ hl hd
    have d0 := hd 0 (by decide)
    have d1 := hd 1 (by decide)
    have d2 := hd 2 (by decide)
    have d3 := hd 3 (by decide)
    have d4 := hd 4 (by decide)
    have d5 := hd 5 (by decide)
    have d6 := hd 6 (by decide)
    clear hd
    have hz := hI.hz
    rw [show l 7 = false from hl, if_neg (by decide)] at hz
    have z0 := blk_cell hz 0
    have z1 := blk_cell hz 1
    have z2 := blk_cell hz 2
    have z3 := blk_cell hz 3
    have zf := fun i => blk_frozen hz i
    simp at z0 z1 z2 z3
    refine rg_skip rfl (by go_simp; rfl) ?_
    refine ⟨?_, ?_⟩
    ·
     simp only [Act.put, List.setIfInBounds_toArray, List.set_cons_zero, List.set_cons_succ]; rfl
    ·
     exact hI.store hl (fun i hi => by match i, hi with | 0, _ => exact d0 | 1, _ => exact d1 | 2, _ => exact d2 | 3, _ => exact d3 | 4, _ => exact d4 | 5, _ => exact d5 | 6, _ => exact d6)
  case hend =>
   rintro l a W ⟨rfl, hI⟩ hall
   have e0 := hall 0 (by decide)
   have e1 := hall 1 (by decide)
   have e2 := hall 2 (by decide)
   have e3 := hall 3 (by decide)
   have e4 := hall 4 (by decide)
   have e5 := hall 5 (by decide)
   have e6 := hall 6 (by decide)
   have e7 := hall 7 (by decide)
   clear hall
   have hx7 := e7
   simp only [e0, e1, e2, e3, e4, e5, e6, e7, sel_true]
   clear e0 e1 e2 e3 e4 e5 e6 e7
   have hz := hI.hz
   rw [if_pos hx7] at hz
   have z0 := blk_cell hz 0
   have z1 := blk_cell hz 1
   have z2 := blk_cell hz 2
   have z3 := blk_cell hz 3
   simp at z0 z1 z2 z3
   have HBF := aM' hI.hD
   clear hI hz hx7
   go_wp2
   refine bodyPost_ret (v := .agg #[.string x.f0, .int .u64 x.f1.f0, .int .u64 x.f1.f1, .int .i64 (m : Int)]) ?_ rfl ⟨rfl, HBF.out⟩
   simp [results, Tryd.results21, go_sem, hu5, z0, z1, z2, z3]
end Go.Proofs.YtfcodmdckcihmaaDoor.P
namespace Go.Proofs.YtfcodmdckcihmaaDoor.P
open Go.RowKit Go.Proofs.YtfcodmdckcihmaaDoorW.PrintWords Go.Proofs.YtfcodmdckcihmaaDoorW.PrintLast Go.Proofs.YtfcodmdckcihmaaDoorW.PrintMore
set_option linter.unusedVariables false
set_option linter.unusedSimpArgs false
set_option linter.unnecessarySimpa false
attribute [local go_sem] Oper.semAt_some
def KeepS (S : Nat → Prop) (W W' : World) : Prop := ∀ k, S k → W'.heap[k]? = W.heap[k]?
theorem KeepS.trans {S : Nat → Prop} {A B C : World} (h : KeepS S A B) (k : KeepS S B C) : KeepS S A C := fun i hi => (k i hi).trans (h i hi)
theorem KeepS.alloc {S : Nat → Prop} {W w : World} (h : KeepS S W w) (hlt : ∀ k, S k → k < W.heap.size) (v : Obj) : KeepS S W (w.alloc v).drew := fun k hk => by
 have h1 := h k hk
 have h2 : k < w.heap.size := by
  rw [Array.getElem?_eq_getElem (hlt k hk)] at h1
  exact (Array.getElem?_eq_some_iff.1 h1).1
 exact ((World.grownBy_alloc w v none).block k h2 (by simp)).trans h1
theorem grown_drew (W : World) : W.grownBy W.drew none := ⟨rfl, rfl, rfl, Nat.le_refl _, fun _ _ _ => rfl⟩
end Go.Proofs.YtfcodmdckcihmaaDoor.P
namespace Go.Proofs.YtfcodmdckcihmaaDoor.P
open Go.RowKit Go.Proofs.YtfcodmdckcihmaaDoorW.PrintWords Go.Proofs.YtfcodmdckcihmaaDoorW.PrintLast Go.Proofs.YtfcodmdckcihmaaDoorW.PrintMore
set_option linter.unusedVariables false
set_option linter.unusedSimpArgs false
set_option linter.unnecessarySimpa false
attribute [local go_sem] Oper.semAt_some
abbrev nodeA (n : SNode) : Array Value := #[.string n.f0, .int .u64 n.f1.f0, .int .u64 n.f1.f1]
structure Clim (w : World) (wd : Int) (st r2 : SNode) (r3 : Int) (W : World) : Prop where
 h0 : W.heap[w.heap.size]? = some (.cells #[.int .i64 wd] 3 (0, 0))
 h1 : W.heap[w.heap.size + 1]? = some (.cells (nodeA st) 46 (0, 0))
 h2 : W.heap[w.heap.size + 1 + 1]? = some (.cells (nodeA r2) 46 (0, 0))
 h3 : W.heap[w.heap.size + 1 + 1 + 1]? = some (.cells #[.int .i64 r3] 26 (0, 0))
 hB : Below w.heap.size w W
theorem Clim.lt {w W : World} {wd r3 : Int} {st r2 : SNode} (h : Clim w wd st r2 r3 W) : w.heap.size + 1 + 1 + 1 < W.heap.size := blk_lt h.h3
theorem Clim.below {w W W' : World} {wd r3 : Int} {st r2 : SNode} (h : Clim w wd st r2 r3 W) (hb : Below W.heap.size W W') : Clim w wd st r2 r3 W' :=
 ⟨blk_below h.h0 hb, blk_below h.h1 hb, blk_below h.h2 hb, blk_below h.h3 hb, h.hB.trans (hb.mono h.hB.size)⟩
theorem Clim.own {w X Y : World} {wd r3 : Int} {st r2 : SNode} {B : Nat} {row : Option Nat} (h : Clim w wd st r2 r3 X) (hg : X.grownBy Y row) (hlt : w.heap.size + 1 + 1 + 1 < B) (hr : ∀ r, row = some r → B ≤ r) : Clim w wd st r2 r3 Y := by
 have hl := h.lt
 have hk : ∀ k, k ≤ w.heap.size + 1 + 1 + 1 → Y.heap[k]? = X.heap[k]? := fun k hk => hg.block k (by omega) (fun e => by have := hr k e.symm; omega)
 exact ⟨(hk _ (by omega)).trans h.h0, (hk _ (by omega)).trans h.h1, (hk _ (by omega)).trans h.h2, (hk _ (by omega)).trans h.h3, ⟨hg.os.trans h.hB.os, hg.tape.trans h.hB.tape, hg.output.trans h.hB.output, Nat.le_trans h.hB.size hg.size, fun i hi => (hk i (by omega)).trans (h.hB.block i hi)⟩⟩
theorem Clim.put {w W : World} {wd r3 : Int} {st r2 : SNode} (h : Clim w wd st r2 r3 W) (x : SNode) (e : Int) :
  Clim w wd st x e ((((W.setCell ⟨w.heap.size + 1 + 1, 0, none⟩ (.string x.f0)).setCell ⟨w.heap.size + 1 + 1, 1, none⟩ (.int .u64 x.f1.f0)).setCell ⟨w.heap.size + 1 + 1, 2, none⟩ (.int .u64 x.f1.f1)).setCell ⟨w.heap.size + 1 + 1 + 1, 0, none⟩ (.int .i64 e)) := by
 have a1 := blk_put (cs' := nodeA ⟨x.f0, r2.f1⟩) h.h2 0 (.string x.f0) rfl
 have a2 := blk_put (cs' := nodeA ⟨x.f0, ⟨x.f1.f0, r2.f1.f1⟩⟩) a1 1 (.int .u64 x.f1.f0) rfl
 have a3 := blk_put (cs' := nodeA x) a2 2 (.int .u64 x.f1.f1) rfl
 exact ⟨blk_far (blk_far (blk_far (blk_far h.h0 (by (try dsimp only); omega) _) (by (try dsimp only); omega) _) (by (try dsimp only); omega) _) (by (try dsimp only); omega) _, blk_far (blk_far (blk_far (blk_far h.h1 (by (try dsimp only); omega) _) (by (try dsimp only); omega) _) (by (try dsimp only); omega) _) (by (try dsimp only); omega) _,
  blk_far a3 (by (try dsimp only); omega) _, blk_put (blk_far (blk_far (blk_far h.h3 (by (try dsimp only); omega) _) (by (try dsimp only); omega) _) (by (try dsimp only); omega) _) 0 (.int .i64 e) rfl,
  below_set (below_set (below_set (below_set h.hB (by (try dsimp only); omega)) (by (try dsimp only); omega)) (by (try dsimp only); omega)) (by (try dsimp only); omega)⟩
theorem Clim.step {w W : World} {wd r3 : Int} {st r2 : SNode} (h : Clim w wd st r2 r3 W) (x : SNode) :
  Clim w wd x r2 r3 (((W.setCell ⟨w.heap.size + 1, 0, none⟩ (.string x.f0)).setCell ⟨w.heap.size + 1, 1, none⟩ (.int .u64 x.f1.f0)).setCell ⟨w.heap.size + 1, 2, none⟩ (.int .u64 x.f1.f1)) := by
 have a1 := blk_put (cs' := nodeA ⟨x.f0, st.f1⟩) h.h1 0 (.string x.f0) rfl
 have a2 := blk_put (cs' := nodeA ⟨x.f0, ⟨x.f1.f0, st.f1.f1⟩⟩) a1 1 (.int .u64 x.f1.f0) rfl
 have a3 := blk_put (cs' := nodeA x) a2 2 (.int .u64 x.f1.f1) rfl
 exact ⟨blk_far (blk_far (blk_far h.h0 (by (try dsimp only); omega) _) (by (try dsimp only); omega) _) (by (try dsimp only); omega) _, a3, blk_far (blk_far (blk_far h.h2 (by (try dsimp only); omega) _) (by (try dsimp only); omega) _) (by (try dsimp only); omega) _, blk_far (blk_far (blk_far h.h3 (by (try dsimp only); omega) _) (by (try dsimp only); omega) _) (by (try dsimp only); omega) _,
  below_set (below_set (below_set h.hB (by (try dsimp only); omega)) (by (try dsimp only); omega)) (by (try dsimp only); omega)⟩
theorem put3 {W : World} {g : Nat} {z : SNode} (h : W.heap[g]? = some (.cells (nodeA z) 46 (0, 0))) (x : SNode) :
  (((W.setCell ⟨g, 0, none⟩ (.string x.f0)).setCell ⟨g, 1, none⟩ (.int .u64 x.f1.f0)).setCell ⟨g, 2, none⟩ (.int .u64 x.f1.f1)).heap[g]? = some (.cells (nodeA x) 46 (0, 0)) := by
 have a1 := blk_put (cs' := nodeA ⟨x.f0, z.f1⟩) h 0 (.string x.f0) rfl
 have a2 := blk_put (cs' := nodeA ⟨x.f0, ⟨x.f1.f0, z.f1.f1⟩⟩) a1 1 (.int .u64 x.f1.f0) rfl
 exact blk_put (cs' := nodeA x) a2 2 (.int .u64 x.f1.f1) rfl
theorem far3 {W : World} {g k : Nat} {o : Obj} (h : W.heap[k]? = some o) (hn : k ≠ g) (a b c : Value) : (((W.setCell ⟨g, 0, none⟩ a).setCell ⟨g, 1, none⟩ b).setCell ⟨g, 2, none⟩ c).heap[k]? = some o := by
 rw [Below.heap_setCell _ _ _ _ hn, Below.heap_setCell _ _ _ _ hn, Below.heap_setCell _ _ _ _ hn]
 exact h
theorem below3 {W V : World} (h : Below W.heap.size W V) {g : Nat} (hg : W.heap.size ≤ g) (a b c : Value) : Below W.heap.size W (((V.setCell ⟨g, 0, none⟩ a).setCell ⟨g, 1, none⟩ b).setCell ⟨g, 2, none⟩ c) :=
 below_set (below_set (below_set h hg) hg) hg
structure Two (W : World) (b12 b13 : Nat) (x s : SNode) (W' : World) : Prop where
 ne : b12 ≠ b13
 l12 : W.heap.size ≤ b12
 l13 : W.heap.size ≤ b13
 hB : Below W.heap.size W W'
 h12 : W'.heap[b12]? = some (.cells (nodeA x) 46 (0, 0))
 h13 : W'.heap[b13]? = some (.cells (nodeA s) 46 (0, 0))
theorem Two.put {W V : World} {b12 b13 : Nat} {x s : SNode} (h : Two W b12 b13 x s V) (x' s' : SNode) :
  Two W b12 b13 x' s' ((((((V.setCell ⟨b12, 0, none⟩ (.string x'.f0)).setCell ⟨b12, 1, none⟩ (.int .u64 x'.f1.f0)).setCell ⟨b12, 2, none⟩ (.int .u64 x'.f1.f1)).setCell ⟨b13, 0, none⟩ (.string s'.f0)).setCell ⟨b13, 1, none⟩ (.int .u64 s'.f1.f0)).setCell ⟨b13, 2, none⟩ (.int .u64 s'.f1.f1)) :=
 ⟨h.ne, h.l12, h.l13, below3 (below3 h.hB h.l12 _ _ _) h.l13 _ _ _, far3 (put3 h.h12 x') h.ne _ _ _, put3 (far3 h.h13 (Ne.symm h.ne) _ _ _) s'⟩
end Go.Proofs.YtfcodmdckcihmaaDoor.P
namespace Go.Proofs.YtfcodmdckcihmaaDoor.P
open Go.RowKit Go.Proofs.YtfcodmdckcihmaaDoorW.PrintWords Go.Proofs.YtfcodmdckcihmaaDoorW.PrintLast Go.Proofs.YtfcodmdckcihmaaDoorW.PrintMore
set_option linter.unusedVariables false
set_option linter.unusedSimpArgs false
set_option linter.unnecessarySimpa false
def valU (u : SU128) : Int := u.f0 * 18446744073709551616 + u.f1
def totL : List SNode → Int
 | [] => 0
 | n :: l => valU n.f1 + totL l
theorem totL_append : ∀ a b : List SNode, totL (a ++ b) = totL a + totL b
 | [], b => by simp [totL]
 | n :: a, b => by rw [List.cons_append, totL, totL, totL_append a b]; omega
structure NodeK (w : Int) (n : SNode) : Prop where
 of : nodeOf w n = true
 u : OkU n.f1
theorem valU_nn {u : SU128} (h : OkU u) : 0 ≤ valU u := by have := h.h0; have := h.h1; unfold valU; omega
theorem valU_lt {u : SU128} (h : OkU u) : valU u < 340282366920938463463374607431768211456 := by have := h.h0; have := h.h1; unfold valU; omega
theorem totL_nn {w : Int} : ∀ {l : List SNode}, (∀ x ∈ l, NodeK w x) → 0 ≤ totL l
 | [], _ => by simp [totL]
 | n :: l, h => by
  have h1 := valU_nn (h n (List.mem_cons_self ..)).u
  have h2 := totL_nn (l := l) fun x hx => h x (List.mem_cons_of_mem _ hx)
  rw [totL]; omega
def joinV (w : Int) (l r : SNode) : SNode := ⟨dgI w (nodeText l r), ⟨l.f1.f0 + r.f1.f0 + (l.f1.f1 + r.f1.f1) / 18446744073709551616, (l.f1.f1 + r.f1.f1) % 18446744073709551616⟩⟩
theorem joinV_val (w : Int) (l r : SNode) : valU (joinV w l r).f1 = valU l.f1 + valU r.f1 := by unfold joinV valU; dsimp only; omega
theorem joinV_k {w : Int} {l r : SNode} (hl : NodeK w l) (hr : NodeK w r) (h : valU l.f1 + valU r.f1 < 340282366920938463463374607431768211456) : NodeK w (joinV w l r) := by
 obtain ⟨w1, w2, _⟩ := nodeOf_w hl.of
 refine ⟨?_, ?_⟩
 ·
  have e : ((joinV w l r).f0.size : Int) = w := by show ((dgI w (nodeText l r)).size : Int) = w; rw [dgI_size _ _ (by omega) w2]; omega
  simp [nodeOf, e, w1, w2]
 ·
  have h1 := hl.u.h0; have h2 := hl.u.h1; have h3 := hr.u.h0; have h4 := hr.u.h1
  unfold valU at h
  unfold joinV
  exact ⟨by dsimp only; omega, by dsimp only; omega⟩
theorem joinI_room {w : Int} {l r : SNode} (hl : NodeK w l) (hr : NodeK w r) (h : valU l.f1 + valU r.f1 < 340282366920938463463374607431768211456) : joinI w l r = ((joinV w l r).f0, (joinV w l r).f1.f0, (joinV w l r).f1.f1, 0) := by
 have h2 := hl.u.h1; have h4 := hr.u.h1
 unfold valU at h
 have ha : l.f1.f0 + r.f1.f0 + (l.f1.f1 + r.f1.f1) / 18446744073709551616 < 18446744073709551616 := by omega
 unfold joinI addI128 joinV
 rw [if_pos ⟨hl.of, hr.of⟩, if_pos ha, if_pos rfl]
theorem joinI_full {w : Int} {l r : SNode} (hl : NodeK w l) (hr : NodeK w r) (h : ¬ valU l.f1 + valU r.f1 < 340282366920938463463374607431768211456) : joinI w l r = (⟨#[]⟩, 0, 0, 10) := by
 have h2 := hl.u.h1; have h4 := hr.u.h1
 unfold valU at h
 have ha : ¬ l.f1.f0 + r.f1.f0 + (l.f1.f1 + r.f1.f1) / 18446744073709551616 < 18446744073709551616 := by omega
 unfold joinI addI128
 rw [if_pos ⟨hl.of, hr.of⟩, if_neg ha, if_neg (by decide)]
def pairsV (w : Int) : List SNode → List SNode
 | a :: b :: l => joinV w a b :: pairsV w l
 | _ => []
def pairsOk : List SNode → Bool
 | a :: b :: l => decide (valU a.f1 + valU b.f1 < 340282366920938463463374607431768211456) && pairsOk l
 | _ => true
theorem pairsV_len (w : Int) : ∀ (n : Nat) (l : List SNode), l.length = 2 * n → (pairsV w l).length = n
 | 0, [], _ => rfl
 | n + 1, a :: b :: l, h => by
  rw [pairsV, List.length_cons, pairsV_len w n l (by simp at h; omega)]
theorem pairsV_tot (w : Int) : ∀ (n : Nat) (l : List SNode), l.length = 2 * n → totL (pairsV w l) = totL l
 | 0, [], _ => rfl
 | n + 1, a :: b :: l, h => by
  rw [pairsV, totL, totL, totL, pairsV_tot w n l (by simp at h; omega), joinV_val]; omega
theorem pairsV_k {w : Int} : ∀ (n : Nat) (l : List SNode), l.length = 2 * n → (∀ x ∈ l, NodeK w x) → pairsOk l = true → ∀ x ∈ pairsV w l, NodeK w x
 | 0, [], _, _, _, x, hx => by simp [pairsV] at hx
 | n + 1, a :: b :: l, h, hk, ho, x, hx => by
  simp only [pairsOk, Bool.and_eq_true, decide_eq_true_eq] at ho
  rw [pairsV] at hx
  rcases List.mem_cons.1 hx with rfl | hx
  ·
   exact joinV_k (hk a (by simp)) (hk b (by simp)) ho.1
  ·
   exact pairsV_k n l (by simp at h; omega) (fun y hy => hk y (by simp [hy])) ho.2 x hx
theorem pairsOk_tot {w : Int} : ∀ (n : Nat) (l : List SNode), l.length = 2 * n → (∀ x ∈ l, NodeK w x) → pairsOk l = false → ¬ totL l < 340282366920938463463374607431768211456
 | 0, [], _, _, h => by simp [pairsOk] at h
 | n + 1, a :: b :: l, h, hk, ho => by
  have ha := valU_nn (hk a (by simp)).u
  have hb := valU_nn (hk b (by simp)).u
  have hl : 0 ≤ totL l := totL_nn fun y hy => hk y (by simp [hy])
  rw [totL, totL]
  by_cases h1 : valU a.f1 + valU b.f1 < 340282366920938463463374607431768211456
  ·
   have h2 : pairsOk l = false := by simpa [pairsOk, h1] using ho
   have := pairsOk_tot n l (by simp at h; omega) (fun y hy => hk y (by simp [hy])) h2
   omega
  ·
   omega
theorem pairsV_append (w : Int) : ∀ (n : Nat) (a b : List SNode), a.length = 2 * n → pairsV w (a ++ b) = pairsV w a ++ pairsV w b
 | 0, [], b, _ => rfl
 | n + 1, x :: y :: a, b, h => by
  rw [List.cons_append, List.cons_append, pairsV, pairsV, pairsV_append w n a b (by simp at h; omega)]; rfl
def zeroN : SNode := ⟨⟨#[]⟩, ⟨0, 0⟩⟩
def twoV (w : Int) (l : List SNode) (j : Nat) : SNode := joinV w (l.getD (2 * j) zeroN) (l.getD (2 * j + 1) zeroN)
def twoOk (l : List SNode) (j : Nat) : Prop := valU (l.getD (2 * j) zeroN).f1 + valU (l.getD (2 * j + 1) zeroN).f1 < 340282366920938463463374607431768211456
theorem pairsV_range (w : Int) : ∀ (n : Nat) (l : List SNode), l.length = 2 * n → pairsV w l = (List.range n).map (twoV w l)
 | 0, [], _ => rfl
 | n + 1, a :: b :: l, h => by
  rw [pairsV, pairsV_range w n l (by simp at h; omega), List.range_succ_eq_map, List.map_cons, List.map_map]
  congr 1
theorem pairsOk_range : ∀ (n : Nat) (l : List SNode), l.length = 2 * n → (pairsOk l = true ↔ ∀ j, j < n → twoOk l j)
 | 0, [], _ => by simp [pairsOk]
 | n + 1, a :: b :: l, h => by
  rw [pairsOk, Bool.and_eq_true, decide_eq_true_eq, pairsOk_range n l (by simp at h; omega)]
  constructor
  ·
   rintro ⟨h0, hr⟩ j hj
   match j, hj with
   | 0, _ => exact h0
   | j + 1, hj => exact hr j (by omega)
  ·
   intro hr
   exact ⟨hr 0 (by omega), fun j hj => hr (j + 1) (by omega)⟩
def treeV (w : Int) : Nat → List SNode → SNode
 | 0, l => l.headD zeroN
 | k + 1, l => joinV w (treeV w k (l.take (2 ^ k))) (treeV w k (l.drop (2 ^ k)))
theorem treeV_pairs (w : Int) : ∀ (k : Nat) (l : List SNode), l.length = 2 ^ (k + 1) → treeV w (k + 1) l = treeV w k (pairsV w l)
 | 0, [a, b], _ => rfl
 | k + 1, l, h => by
  have hp : 2 ^ (k + 1 + 1) = 2 * 2 ^ (k + 1) := by rw [Nat.pow_succ]; omega
  have hq : 2 ^ (k + 1) = 2 * 2 ^ k := by rw [Nat.pow_succ]; omega
  have e1 : (l.take (2 ^ (k + 1))).length = 2 ^ (k + 1) := by rw [List.length_take]; omega
  have e2 : (l.drop (2 ^ (k + 1))).length = 2 ^ (k + 1) := by rw [List.length_drop]; omega
  have e : pairsV w l = pairsV w (l.take (2 ^ (k + 1))) ++ pairsV w (l.drop (2 ^ (k + 1))) := by
   rw [← pairsV_append w (2 ^ k) _ _ (by rw [e1, hq]), List.take_append_drop]
  have e3 : (pairsV w (l.take (2 ^ (k + 1)))).length = 2 ^ k := pairsV_len w _ _ (by rw [e1, hq])
  rw [treeV, treeV_pairs w k _ e1, treeV_pairs w k _ e2, treeV, e, List.take_left' e3, List.drop_left' e3]
theorem treeV_val {w : Int} : ∀ (k : Nat) (l : List SNode), l.length = 2 ^ k → valU (treeV w k l).f1 = totL l
 | 0, [a], _ => by simp [treeV, totL]
 | k + 1, l, h => by
  have hp : 2 ^ (k + 1) = 2 * 2 ^ k := by rw [Nat.pow_succ]; omega
  rw [treeV, joinV_val, treeV_val k _ (by rw [List.length_take]; omega), treeV_val k _ (by rw [List.length_drop]; omega), ← totL_append, List.take_append_drop]
theorem treeV_k {w : Int} : ∀ (k : Nat) (l : List SNode), l.length = 2 ^ k → (∀ x ∈ l, NodeK w x) → totL l < 340282366920938463463374607431768211456 → NodeK w (treeV w k l)
 | 0, [a], _, h, _ => h a (by simp)
 | k + 1, l, h, hk, ht => by
  have hp : 2 ^ (k + 1) = 2 * 2 ^ k := by rw [Nat.pow_succ]; omega
  have k1 : ∀ x ∈ l.take (2 ^ k), NodeK w x := fun x hx => hk x (List.mem_of_mem_take hx)
  have k2 : ∀ x ∈ l.drop (2 ^ k), NodeK w x := fun x hx => hk x (List.mem_of_mem_drop hx)
  have t := totL_append (l.take (2 ^ k)) (l.drop (2 ^ k))
  rw [List.take_append_drop] at t
  have t1 := totL_nn k1
  have t2 := totL_nn k2
  have l1 : (l.take (2 ^ k)).length = 2 ^ k := by rw [List.length_take]; omega
  have l2 : (l.drop (2 ^ k)).length = 2 ^ k := by rw [List.length_drop]; omega
  rw [treeV]
  exact joinV_k (treeV_k k _ l1 k1 (by omega)) (treeV_k k _ l2 k2 (by omega)) (by rw [treeV_val k _ l1, treeV_val k _ l2]; omega)
def isPow (n : Nat) : Bool := decide (2 ^ n.log2 = n)
theorem isPow_spec {n : Nat} (h : isPow n = true) : ∃ k, n = 2 ^ k := ⟨n.log2, by unfold isPow at h; simpa using (of_decide_eq_true h).symm⟩
end Go.Proofs.YtfcodmdckcihmaaDoor.P
namespace Go.Proofs.YtfcodmdckcihmaaDoor.P
open Go.RowKit Go.Proofs.YtfcodmdckcihmaaDoorW.PrintWords Go.Proofs.YtfcodmdckcihmaaDoorW.PrintLast Go.Proofs.YtfcodmdckcihmaaDoorW.PrintMore
set_option linter.unusedVariables false
set_option linter.unusedSimpArgs false
set_option linter.unnecessarySimpa false
def levelsV (w : Int) : Nat → List SNode → List (List SNode)
 | 0, l => [l]
 | k + 1, l => l :: levelsV w k (pairsV w l)
theorem levelsV_len (w : Int) : ∀ k l, (levelsV w k l).length = k + 1
 | 0, _ => rfl
 | k + 1, l => by rw [levelsV, List.length_cons, levelsV_len w k]
def upV (w : Int) : Nat → List SNode → List SNode
 | 0, l => l
 | n + 1, l => upV w n (pairsV w l)
theorem upV_succ (w : Int) : ∀ n l, upV w (n + 1) l = pairsV w (upV w n l)
 | 0, _ => rfl
 | n + 1, l => by rw [upV, upV_succ w n]; rfl
theorem upV_len (w : Int) : ∀ (n k : Nat) (l : List SNode), l.length = 2 ^ (n + k) → (upV w n l).length = 2 ^ k
 | 0, k, l, h => by rw [Nat.zero_add] at h; exact h
 | n + 1, k, l, h => by
  rw [upV]
  refine upV_len w n k _ (pairsV_len w _ _ ?_)
  rw [h, show n + 1 + k = (n + k) + 1 by omega, Nat.pow_succ, Nat.mul_comm]
theorem levelsV_get (w : Int) : ∀ (k n : Nat) (l : List SNode), n ≤ k → (levelsV w k l)[n]? = some (upV w n l)
 | 0, 0, _, _ => rfl
 | k + 1, 0, _, _ => rfl
 | k + 1, n + 1, l, h => by
  rw [levelsV, List.getElem?_cons_succ, levelsV_get w k n _ (by omega)]; rfl
end Go.Proofs.YtfcodmdckcihmaaDoor.P
namespace Go.Proofs.YtfcodmdckcihmaaDoor.P
open Go.RowKit Go.Proofs.YtfcodmdckcihmaaDoorW.PrintWords Go.Proofs.YtfcodmdckcihmaaDoorW.PrintLast Go.Proofs.YtfcodmdckcihmaaDoorW.PrintMore
set_option linter.unusedVariables false
set_option linter.unusedSimpArgs false
set_option linter.unnecessarySimpa false
theorem up_ok {wd : Int} {K : Nat} {l : List SNode} (hl : l.length = 2 ^ K) (hk : ∀ x ∈ l, NodeK wd x) (ht : totL l < 340282366920938463463374607431768211456) : ∀ i, i ≤ K → (upV wd i l).length = 2 ^ (K - i) ∧ (∀ x ∈ upV wd i l, NodeK wd x) ∧ totL (upV wd i l) = totL l := by
 intro i
 induction i with
 | zero => intro _; exact ⟨hl, hk, rfl⟩
 | succ i ih =>
  intro hi
  obtain ⟨h1, h2, h3⟩ := ih (by omega)
  have hm : (upV wd i l).length = 2 * 2 ^ (K - (i + 1)) := by rw [h1, show K - i = (K - (i + 1)) + 1 by omega, Nat.pow_succ, Nat.mul_comm]
  have hok : pairsOk (upV wd i l) = true := by
   cases h : pairsOk (upV wd i l) with
   | true => rfl
   | false => exact absurd (by rw [h3]; exact ht) (pairsOk_tot _ _ hm h2 h)
  rw [upV_succ]
  exact ⟨pairsV_len wd _ _ hm, pairsV_k _ _ hm h2 hok, (pairsV_tot wd _ _ hm).trans h3⟩
end Go.Proofs.YtfcodmdckcihmaaDoor.P
namespace Go.Proofs.YtfcodmdckcihmaaDoor.P
open Go.RowKit Go.Proofs.YtfcodmdckcihmaaDoorW.PrintWords Go.Proofs.YtfcodmdckcihmaaDoorW.PrintLast Go.Proofs.YtfcodmdckcihmaaDoorW.PrintMore
set_option linter.unusedVariables false
set_option linter.unusedSimpArgs false
set_option linter.unnecessarySimpa false
section
variable {F : Fence} {m : Nat} {P : Program} {ops : Array Oper} {Q : Exit → Act → World → Prop}
def StepAtIn (F : Fence) (m : Nat) (P : Program) (ops : Array Oper) (Q : Exit → Act → World → Prop) (I : (Nat → Bool) → Act → World → Prop) (i : Nat) : Prop :=
 ∀ o, ops[i]? = some o → ∀ l a w, I l a w → l i = false → (∀ j ∈ rgNeeds o, l j = true) → if Region.wanted o (yielded ops a.tmps) = true then o.wpIn F m P a w (fun a' w' => I (upd l i) a' w') Q else (∀ f, o.about P w a.eval = some f → F.fn f) ∧ I (upd l i) (a.put o.dst undef) w
theorem rg_anyIn (I : (Nat → Bool) → Act → World → Prop) (hord : rgOrd ops = true) (hstep : ∀ i, i < ops.size → StepAtIn F m P ops Q I i) (hend : ∀ l a w, I l a w → (∀ i, i < ops.size → l i = true) → Q .normal a w) :
  ∀ (fuel : Nat) (arr : Array Bool) (a : Act) (w : World), arr.size = ops.size → I (fun j => arr.getD j false) a w → rgUndone ops.size (fun j => arr.getD j false) ≤ fuel → wpAnyIn F m P .any ops Q fuel arr a w := by
 have hready : ∀ arr : Array Bool, arr.size = ops.size → Region.ready .any ops arr = [] → ∀ i, i < ops.size → arr.getD i false = true := by
  intro arr hs hr i
  induction i using Nat.strongRecOn with
  | ind i ih =>
   intro hi
   cases hb : arr.getD i false with
   | true => rfl
   | false =>
    exfalso
    have ho : ops[i]? = some ops[i] := Array.getElem?_eq_getElem hi
    have hall : (rgNeeds ops[i]).all (fun j => decide (j < i)) = true := by
     have := List.all_eq_true.1 hord i (List.mem_range.2 hi)
     simp only [ho] at this
     exact this
    have hmem : i ∈ Region.ready .any ops arr := by
     unfold Region.ready
     rw [List.mem_filter]
     refine ⟨List.mem_range.2 hi, ?_⟩
     have h1 : arr.getD i true = false := by
      simp only [Array.getD_eq_getD_getElem?] at hb ⊢
      rw [Array.getElem?_eq_getElem (by omega)] at hb ⊢
      simpa using hb
     simp only [h1, Bool.not_false, Bool.true_and, ho, Option.map_some, Option.getD_some]
     rw [← Array.all_toList, List.all_eq_true]
     intro e he
     cases hbd : Region.binds .any e with
     | false => rfl
     | true =>
      have hj : e.on ∈ rgNeeds ops[i] := List.mem_map.2 ⟨e, List.mem_filter.2 ⟨he, hbd⟩, rfl⟩
      have hlt : e.on < i := by simpa using List.all_eq_true.1 hall e.on hj
      rw [ih e.on hlt (by omega)]; rfl
    rw [hr] at hmem
    exact absurd hmem (List.not_mem_nil)
 intro fuel
 induction fuel with
 | zero =>
  intro arr a w hs hI hu
  have hd := rgUndone_zero (Nat.le_zero.1 hu)
  refine ⟨?_, hend _ a w hI hd⟩
  unfold Region.ready
  rw [List.filter_eq_nil_iff]
  intro i hi
  have h1 := hd i (List.mem_range.1 hi)
  have h2 : arr.getD i true = true := by
   have hlt := List.mem_range.1 hi
   simp only [Array.getD_eq_getD_getElem?] at h1 ⊢
   rw [Array.getElem?_eq_getElem (by omega)] at h1 ⊢
   simpa using h1
  simp [h2]
 | succ fuel ih =>
  intro arr a w hs hI hu
  refine ⟨fun hr => hend _ a w hI (hready arr hs hr), fun i hi => ?_⟩
  unfold Region.ready at hi
  rw [List.mem_filter] at hi
  obtain ⟨hir, hi2⟩ := hi
  have hlt := List.mem_range.1 hir
  have ho : ops[i]? = some ops[i] := Array.getElem?_eq_getElem hlt
  simp only [ho, Option.map_some, Option.getD_some, Bool.and_eq_true, Bool.not_eq_true'] at hi2
  have hb : arr.getD i false = false := by
   have h1 := hi2.1
   simp only [Array.getD_eq_getD_getElem?] at h1 ⊢
   rw [Array.getElem?_eq_getElem (by omega)] at h1 ⊢
   simpa using h1
  have hn : ∀ j ∈ rgNeeds ops[i], arr.getD j false = true := by
   intro j hj
   obtain ⟨e, he, rfl⟩ := List.mem_map.1 hj
   obtain ⟨he1, he2⟩ := List.mem_filter.1 he
   have h3 := hi2.2
   rw [← Array.all_toList, List.all_eq_true] at h3
   have := h3 e he1
   rw [he2] at this
   simpa using this
  have hst := hstep i hlt _ ho _ a w hI hb hn
  have hK : ∀ a' w', I (upd (fun j => arr.getD j false) i) a' w' → wpAnyIn F m P .any ops Q fuel (arr.setIfInBounds i true) a' w' := by
   intro a' w' h'
   have e : (fun j => (arr.setIfInBounds i true).getD j false) = upd (fun j => arr.getD j false) i := by
    funext j
    unfold upd
    simp only [Array.getD_eq_getD_getElem?]
    by_cases e : j = i
    ·
     subst e
     rw [if_pos rfl, Array.getElem?_setIfInBounds_self_of_lt (by omega)]; rfl
    ·
     rw [if_neg e, Array.getElem?_setIfInBounds_ne (fun h => e h.symm)]
   refine ih _ a' w' (by simpa using hs) (by rw [e]; exact h') ?_
   rw [e]
   have := rgUndone_upd (l := fun j => arr.getD j false) hlt hb
   omega
  unfold wpOpIn
  rw [ho]
  dsimp only
  split
  ·
   rename_i hw
   rw [if_pos hw] at hst
   exact Oper.wpIn_mono hK hst
  ·
   rename_i hw
   rw [if_neg hw] at hst
   exact ⟨hst.1, hK _ _ hst.2⟩
theorem region_invIn {id : Nat} {a : Act} {w : World} (I : (Nat → Bool) → Act → World → Prop) (n : Nat) (hm : P.follows .mixedOrders = true) (hn : ops.size = n) (hord : rgOrd ops = true) (h0 : I (fun _ => false) a w.drew)
  (hend : ∀ l a w, I l a w → (∀ i, i < n → l i = true) → Q .normal a w) (hstep : ∀ i, i < n → StepAtIn F m P ops Q I i) : (Code.region id ops true).wpIn F m P Q a w := by
 subst hn
 refine wpIn_region_any hm (rg_anyIn I hord hstep hend ops.size _ a _ (by simp) ?_ ?_)
 ·
  have e : (fun j => (Array.replicate ops.size false).getD j false) = fun _ => false := by
   funext j
   simp only [Array.getD_eq_getD_getElem?, Array.getElem?_replicate]
   split <;> rfl
  rw [e]; exact h0
 ·
  unfold rgUndone
  have := List.countP_le_length (p := fun j => !(Array.replicate ops.size false).getD j false) (l := List.range ops.size)
  simpa using this
theorem rgi_step {I : (Nat → Bool) → Act → World → Prop} {i : Nat} {oi : Oper} (hi : ops[i]? = some oi)
  (h : ∀ l a w, I l a w → l i = false → (∀ j ∈ rgNeeds oi, l j = true) → if Region.wanted oi (yielded ops a.tmps) = true then oi.wpIn F m P a w (fun a' w' => I (upd l i) a' w') Q else (∀ f, oi.about P w a.eval = some f → F.fn f) ∧ I (upd l i) (a.put oi.dst undef) w) : StepAtIn F m P ops Q I i := by
 intro o ho
 rw [hi] at ho
 cases ho
 exact h
theorem rgi_val {K : Act → World → Prop} {oi : Oper} {a : Act} {w w' : World} {v : Value} (hF : ∀ f, F.fn f) (hw : Region.wanted oi (yielded ops a.tmps) = true) (hd : ∀ c, oi.op ≠ .defer c) (hrun : (execOp a.eval oi).run P w = .ok (.value v) w') (hK : K (a.put oi.dst v) w') :
  if Region.wanted oi (yielded ops a.tmps) = true then oi.wpIn F m P a w K Q else (∀ f, oi.about P w a.eval = some f → F.fn f) ∧ K (a.put oi.dst undef) w := by
 rw [if_pos hw]; unfold Oper.wpIn; rw [Oper.semAt_eq _ _ _ hd, hrun]; exact ⟨fun f _ => hF f, hK⟩
theorem rgi_skip {K : Act → World → Prop} {oi : Oper} {a : Act} {w w' : World} (hF : ∀ f, F.fn f) (hw : Region.wanted oi (yielded ops a.tmps) = true) (hd : ∀ c, oi.op ≠ .defer c) (hrun : (execOp a.eval oi).run P w = .ok .skip w') (hK : K (a.put oi.dst undef) w') :
  if Region.wanted oi (yielded ops a.tmps) = true then oi.wpIn F m P a w K Q else (∀ f, oi.about P w a.eval = some f → F.fn f) ∧ K (a.put oi.dst undef) w := by
 rw [if_pos hw]; unfold Oper.wpIn; rw [Oper.semAt_eq _ _ _ hd, hrun]; exact ⟨fun f _ => hF f, hK⟩
theorem rgi_call {K : Act → World → Prop} {oi : Oper} {a : Act} {w : World} {f : FuncId} {args : Array Value} (hF : ∀ f, F.fn f) (hdp : F.depth = none) (hw : Region.wanted oi (yielded ops a.tmps) = true) (hd : ∀ c, oi.op ≠ .defer c) (hrun : (execOp a.eval oi).run P w = .ok (.enter f args) w)
  (h : CallsIn F (m - 1) P f args w fun e w' => ∃ v, e = .returned v ∧ K (a.put oi.dst v) w') :
  if Region.wanted oi (yielded ops a.tmps) = true then oi.wpIn F m P a w K Q else (∀ f, oi.about P w a.eval = some f → F.fn f) ∧ K (a.put oi.dst undef) w := by
 rw [if_pos hw]; unfold Oper.wpIn; rw [Oper.semAt_eq _ _ _ hd, hrun]
 rw [Oper.uponIn_enter]
 refine And.intro (fun f _ => hF f) (And.intro (fun h => by rw [hdp] at h; cases h) ?_)
 exact h.mono fun e w' ⟨v, he, hk⟩ => by subst he; exact hk
theorem li_val {w w' : World} {rest : List Oper} {o : Oper} {a : Act} {v : Value} (hg : o.guard = none) (hF : ∀ f, F.fn f) (hd : ∀ c, o.op ≠ .defer c) (hrun : (execOp a.eval o).run P w = .ok (.value v) w') (hK : wpListIn F m P ops Q rest (a.put o.dst v) w') : wpListIn F m P ops Q (o :: rest) a w := by
 refine wpListIn_plain hg fun K hK' => ?_
 unfold Oper.wpIn; rw [Oper.semAt_eq _ _ _ hd, hrun]; exact ⟨fun f _ => hF f, hK' _ _ hK⟩
theorem li_skip {w w' : World} {rest : List Oper} {o : Oper} {a : Act} (hg : o.guard = none) (hF : ∀ f, F.fn f) (hd : ∀ c, o.op ≠ .defer c) (hrun : (execOp a.eval o).run P w = .ok .skip w') (hK : wpListIn F m P ops Q rest (a.put o.dst undef) w') : wpListIn F m P ops Q (o :: rest) a w := by
 refine wpListIn_plain hg fun K hK' => ?_
 unfold Oper.wpIn; rw [Oper.semAt_eq _ _ _ hd, hrun]; exact ⟨fun f _ => hF f, hK' _ _ hK⟩
end
end Go.Proofs.YtfcodmdckcihmaaDoor.P
namespace Go.Proofs.YtfcodmdckcihmaaDoor.P
open Go.RowKit Go.Proofs.YtfcodmdckcihmaaDoorW.PrintWords Go.Proofs.YtfcodmdckcihmaaDoorW.PrintLast Go.Proofs.YtfcodmdckcihmaaDoorW.PrintMore
set_option linter.unusedVariables false
set_option linter.unusedSimpArgs false
set_option linter.unnecessarySimpa false
attribute [local go_sem] Oper.semAt_some sel_true
theorem chunk.calls (A : Option Addr) (m c : Nat) (w : World) : Calls Tryd.prog 58 #[.slice A m c, .int .i64 2] w fun e w' => e = .returned (.func (.func 95) #[] #[.pointer (some ⟨w.heap.size, 0, none⟩), .pointer (some ⟨w.heap.size + 1, 0, none⟩)]) ∧ w' = (w.alloc (.cells #[.slice A m c] 43)).alloc (.cells #[.int .i64 2] 3) := by
 go_enter Tryd.func58, Tryd.ntmps58
 go_wp2
 go_ret
 exact ⟨rfl, rfl⟩
def chunkV (ad : Addr) (j : Nat) : Value := .slice (some (ad.add (2 * j * 3))) 2 2
theorem slice_from (ad : Addr) (M c i : Nat) (h : i < M) (hc : M ≤ c) (wx : World) : (Instr.slice 43 (.slice (some ad) M c) (some (.int .i64 i)) none none).run Tryd.prog wx = .ok (.slice (some (ad.add (i * 3))) (M - i) (c - i)) wx := by
 have h1 := run_slice_l (P := Tryd.prog) wx 43 (some ad) M c (by kernel_rfl) .i64 (i : Int) (by omega) (by omega)
 rw [h1]
 have hs : (sizeOf (Tryd.prog.elem 43)).run Tryd.prog wx = .ok 3 wx := by kernel_rfl
 rw [hs]
 simp only [Result.andThen, sliced, Int.toNat_natCast]
 rw [if_neg (by omega)]; rfl
theorem slice_two (ad : Addr) (M c i : Nat) (h : i + 2 ≤ M) (hc : M ≤ c) (wx : World) : (Instr.slice 43 (.slice (some ad) M c) (some (.int .i64 i)) (some (.int .i64 ((i : Int) + 2))) (some (.int .i64 ((i : Int) + 2)))).run Tryd.prog wx = .ok (.slice (some (ad.add (i * 3))) 2 2) wx := by
 have h1 := run_slice_lhm (P := Tryd.prog) wx 43 (some ad) M c (by kernel_rfl) .i64 .i64 .i64 (i : Int) ((i : Int) + 2) ((i : Int) + 2) (by omega) (by omega) (by omega) (by omega)
 rw [h1]
 have hs : (sizeOf (Tryd.prog.elem 43)).run Tryd.prog wx = .ok 3 wx := by kernel_rfl
 rw [hs]
 simp only [Result.andThen, sliced, Int.toNat_natCast, show ((i : Int) + 2).toNat = i + 2 by omega]
 rw [if_neg (by omega)]
 simp
set_option maxRecDepth 100000 in
set_option maxHeartbeats 1000000 in
theorem chunk1_in (n : Nat) (hn : 1 ≤ n) (lp sb nb B : Nat) (ad : Addr) (m M c : Nat) (hM : M = 2 * m) (hm : m ≤ 1000000) (hmc : M ≤ c) (S : Nat → Prop) (hSs : S sb) (hSn : S nb)
  (J Jx : List Nat → World → Prop) (hJ : AbidesFrom B J)
  (hY : ∀ j W, J (List.range j) W → j < m → YieldAt Fence.wide (n - 1) Tryd.prog lp #[chunkV ad j] W fun e W' => (e = .returned (.bool true) ∧ J (List.range (j + 1)) W' ∧ KeepS S W W') ∨ (e = .returned (.bool false) ∧ Jx (List.range (j + 1)) W'))
  (W : World) (hs : W.heap[sb]? = some (.cells #[.slice (some ad) M c] 43 (0, 0))) (hpb : W.heap[nb]? = some (.cells #[.int .i64 2] 3 (0, 0))) (h0 : J [] W) :
  CallsIn Fence.wide n Tryd.prog 95 #[.func (.yield lp) #[] #[], .pointer (some ⟨sb, 0, none⟩), .pointer (some ⟨nb, 0, none⟩)] W fun e W' => (∃ v, e = .returned v) ∧ (J (List.range m) W' ∨ ∃ j, j ≤ m ∧ Jx (List.range j) W') := by
 have HS := aM' hs
 have HP := aM' hpb
 have HJ := aM' hJ
 have HY := aM' hY
 have HM := aM' hm
 have HMC := aM' hmc
 have HMM := aM' hM
 clear hs hpb hJ hY hm hmc hM
 refine callsIn_of_wp Tryd.func95 rfl trivial ?_
 simp only [Tryd.ntmps95, List.size_toArray, List.length_cons, List.length_nil, Nat.reduceAdd, Nat.reduceSub, Array.replicate_succ, Array.replicate_zero, List.push_toArray, List.append_toArray, List.nil_append, List.cons_append]
 gi_wp2
 gi_loopw [4] (fun v wr => ∃ i j : Nat, v = .int .i64 i ∧ Aside0 (i = 2 * j ∧ j ≤ m) ∧ Aside0 (J (List.range j) wr) ∧ Aside0 (KeepS S W wr)) (fun v _ => M - (intOf v).toNat)
 case atStart => exact ⟨0, 0, rfl, ⟨rfl, Nat.zero_le _⟩, ⟨h0⟩, ⟨fun _ _ => rfl⟩⟩
 case round =>
  obtain ⟨i, j, rfl, HI, HJs, HK⟩ := hrel
  have x0 : wr.cell? ⟨sb, 0, none⟩ = some (.slice (some ad) M c) := blk_cell ((HK.out sb hSs).trans HS.out) 0
  have x1 : wr.cell? ⟨nb, 0, none⟩ = some (.int .i64 2) := blk_cell ((HK.out nb hSn).trans HP.out) 0
  by_cases hlt : j < m
  ·
   have hi2 : i + 2 ≤ M := by have := HI.out; have := HMM.out; omega
   have b1 : decide (i < M) = true := decide_eq_true (by omega)
   have s1 := fun wx => slice_from ad M c i (by omega) HMC.out wx
   have s2 := fun wx => slice_two ad M c i hi2 HMC.out wx
   have wi : wrap64 ((i : Int) + 2) = (i : Int) + 2 := by have := HMM.out; have := HM.out; exact wrap64_id (by omega) (by omega)
   have mn : min (2 : Int) ((M - i : Nat) : Int) = 2 := by omega
   obtain ⟨fn, tmps, assign, body, hy, hR⟩ := HY.out j wr.drew (HJ.out _ wr _ none HJs.out (grown_drew _) (fun r e => by cases e)) hlt
   have he : chunkV ad j = .slice (some (ad.add (i * 3))) 2 2 := by rw [HI.out.1]; rfl
   rw [he] at hy
   have hR2 := hR.mono (fun e W' h => (show ∃ b : Bool, e = .returned (.bool b) ∧ Aside0 ((b = true ∧ J (List.range (j + 1)) W' ∧ KeepS S wr.drew W') ∨ (b = false ∧ Jx (List.range (j + 1)) W')) from
    h.elim (fun h => ⟨true, h.1, ⟨.inl ⟨rfl, h.2⟩⟩⟩) (fun h => ⟨false, h.1, ⟨.inr ⟨rfl, h.2⟩⟩⟩)))
   clear hR he
   gi_wp2
   refine region_invIn (fun l a W => a = ({ tmps := #[.func (.yield lp) #[] #[], .pointer (some ⟨sb, 0, none⟩), .pointer (some ⟨nb, 0, none⟩), undef, .int .i64 (i : Int), sel (l 6) (.int .i64 2) (u5), .int .i64 (i : Int), .slice (some ad) M c, .int .i64 (M : Int), .bool true, u10, u11, u12, sel (l 0) (.int .i64 2) (u13), sel (l 1) (.slice (some ad) M c) (u14), sel (l 2) (.int .i64 (i : Int)) (u15), sel (l 3) (.slice (some (ad.add (i * 3))) (M - i) (c - i)) (u16), sel (l 4) (.int .i64 ((M - i : Nat) : Int)) (u17), sel (l 5) (.int .i64 2) (u18), u19, u20, u21, u22, u23, u24, u25, u26, u27, u28, u29, u30], defers := [] } : Act) ∧ (W = wr.drew)) 7 rfl rfl (by kernel_rfl) ?h0 ?hend ?hstep
   case h0 => exact ⟨rfl, rfl⟩
   case hstep =>
    refine rg_cons (rg_cons (rg_cons (rg_cons (rg_cons (rg_cons (rg_cons (rg_nil) ?s0) ?s1) ?s2) ?s3) ?s4) ?s5) ?s6
    case s0 =>
     refine rgi_step rfl ?_
     rintro l a W ⟨rfl, rfl⟩ hl hd
     clear hd
     refine rgi_val (v := .int .i64 2) (w' := wr.drew) (fun _ => trivial) rfl (fun _ h => by cases h) (by go_simp) ?_
     refine ⟨?_, ?_⟩
     ·
      simp only [Act.put, List.setIfInBounds_toArray, List.set_cons_zero, List.set_cons_succ]; rfl
     ·
      rfl
    case s1 =>
     refine rgi_step rfl ?_
     rintro l a W ⟨rfl, rfl⟩ hl hd
     clear hd
     refine rgi_val (v := .slice (some ad) M c) (w' := wr.drew) (fun _ => trivial) rfl (fun _ h => by cases h) (by go_simp) ?_
     refine ⟨?_, ?_⟩
     ·
      simp only [Act.put, List.setIfInBounds_toArray, List.set_cons_zero, List.set_cons_succ]; rfl
     ·
      rfl
    case s2 =>
     refine rgi_step rfl ?_
     rintro l a W ⟨rfl, rfl⟩ hl hd
     clear hd
     refine rgi_val (v := .int .i64 (i : Int)) (w' := wr.drew) (fun _ => trivial) rfl (fun _ h => by cases h) (by go_simp) ?_
     refine ⟨?_, ?_⟩
     ·
      simp only [Act.put, List.setIfInBounds_toArray, List.set_cons_zero, List.set_cons_succ]; rfl
     ·
      rfl
    case s3 =>
     refine rgi_step rfl ?_
     rintro l a W ⟨rfl, rfl⟩ hl hd
     have d1 := hd 1 (by decide)
     have d2 := hd 2 (by decide)
     clear hd
     refine rgi_val (v := .slice (some (ad.add (i * 3))) (M - i) (c - i)) (w' := wr.drew) (fun _ => trivial) rfl (fun _ h => by cases h) (by go_simp) ?_
     refine ⟨?_, ?_⟩
     ·
      simp only [Act.put, List.setIfInBounds_toArray, List.set_cons_zero, List.set_cons_succ]; rfl
     ·
      rfl
    case s4 =>
     refine rgi_step rfl ?_
     rintro l a W ⟨rfl, rfl⟩ hl hd
     have d3 := hd 3 (by decide)
     clear hd
     refine rgi_val (v := .int .i64 ((M - i : Nat) : Int)) (w' := wr.drew) (fun _ => trivial) rfl (fun _ h => by cases h) (by go_simp) ?_
     refine ⟨?_, ?_⟩
     ·
      simp only [Act.put, List.setIfInBounds_toArray, List.set_cons_zero, List.set_cons_succ]; rfl
     ·
      rfl
    case s5 =>
     refine rgi_step rfl ?_
     rintro l a W ⟨rfl, rfl⟩ hl hd
     have d0 := hd 0 (by decide)
     have d4 := hd 4 (by decide)
     clear hd
     refine rgi_val (v := .int .i64 2) (w' := wr.drew) (fun _ => trivial) rfl (fun _ h => by cases h) (by go_simp) ?_
     refine ⟨?_, ?_⟩
     ·
      simp only [Act.put, List.setIfInBounds_toArray, List.set_cons_zero, List.set_cons_succ]; rfl
     ·
      rfl
    case s6 =>
     refine rgi_step rfl ?_
     rintro l a W ⟨rfl, rfl⟩ hl hd
     have d5 := hd 5 (by decide)
     clear hd
     refine rgi_val (v := .int .i64 2) (w' := wr.drew) (fun _ => trivial) rfl (fun _ h => by cases h) (by go_simp) ?_
     refine ⟨?_, ?_⟩
     ·
      simp only [Act.put, List.setIfInBounds_toArray, List.set_cons_zero, List.set_cons_succ]; rfl
     ·
      rfl
   case hend =>
    rintro l a W ⟨rfl, rfl⟩ hall
    have e0 := hall 0 (by decide)
    have e1 := hall 1 (by decide)
    have e2 := hall 2 (by decide)
    have e3 := hall 3 (by decide)
    have e4 := hall 4 (by decide)
    have e5 := hall 5 (by decide)
    have e6 := hall 6 (by decide)
    clear hall
    simp only [e0, e1, e2, e3, e4, e5, e6, sel_true]
    clear e0 e1 e2 e3 e4 e5 e6
    gi_wp2_with fail
    refine hR2.mono ?_
    clear hR2 hy x0 x1 s1 s2 mn
    rintro e W3 ⟨b, rfl, HE⟩
    cases b with
    | true =>
     obtain ⟨-, hJ2, hK2⟩ | ⟨h, -⟩ := HE.out
     case inr => exact absurd h (by decide)
     have hK3 : KeepS S W W3 := HK.out.trans hK2
     have HK3 := aM' hK3
     have HJ2 := aM' hJ2
     have x1 : W3.cell? ⟨nb, 0, none⟩ = some (.int .i64 2) := blk_cell ((hK3 nb hSn).trans HP.out) 0
     clear hK2 hK3 hJ2 HE
     gi_wp2
     rw [wi]
     refine ⟨⟨i + 2, j + 1, by simp, ⟨by have := HI.out; omega, hlt⟩, HJ2, HK3⟩, ?_⟩
     show M - ((i : Int) + 2).toNat < M - (i : Int).toNat
     omega
    | false =>
     obtain ⟨h, -⟩ | ⟨-, hJ2⟩ := HE.out
     case inl => exact absurd h (by decide)
     have HJ2 := aM' hJ2
     clear hJ2 HE
     gi_wp2
     refine bodyPost_ret (results_none rfl _ _ _) rfl ?_
     exact ⟨⟨_, rfl⟩, .inr ⟨_, hlt, HJ2.out⟩⟩
  ·
   have b1 : decide (i < M) = false := decide_eq_false (by have := HI.out; have := HMM.out; omega)
   obtain rfl : j = m := by have := HI.out; omega
   gi_wp2
   go_end0
   exact ⟨⟨_, rfl⟩, .inl HJs.out⟩
end Go.Proofs.YtfcodmdckcihmaaDoor.P
namespace Go.Proofs.YtfcodmdckcihmaaDoor.P
open Go.RowKit Go.Proofs.YtfcodmdckcihmaaDoorW.PrintWords Go.Proofs.YtfcodmdckcihmaaDoorW.PrintLast Go.Proofs.YtfcodmdckcihmaaDoorW.PrintMore
set_option linter.unusedVariables false
set_option linter.unusedSimpArgs false
set_option linter.unnecessarySimpa false
attribute [local go_sem] Oper.semAt_some sel_true
theorem nodeInfo : (Tryd.prog.info? 46).map (fun i => (i.zero, i.size, i.bytes)) = some (some (.agg #[(.string ⟨#[]⟩), (.int .u64 0), (.int .u64 0)]), 3, 32) := by kernel_rfl
def cellsN : List SNode → List Value
  | [] => []
  | x :: l => .string x.f0 :: .int .u64 x.f1.f0 :: .int .u64 x.f1.f1 :: cellsN l
theorem cellsN_len : ∀ l, (cellsN l).length = l.length * 3
  | [] => rfl
  | x :: l => by simp [cellsN, cellsN_len l]; omega
theorem cellsN_append : ∀ a b, cellsN (a ++ b) = cellsN a ++ cellsN b
  | [], _ => rfl
  | x :: a, b => by rw [List.cons_append, cellsN, cellsN_append a b]; rfl
theorem cellsN_get : ∀ (l : List SNode) (j i : Nat) (p : SNode), l[j]? = some p → i < 3 → (cellsN l)[j * 3 + i]? = [Value.string p.f0, .int .u64 p.f1.f0, .int .u64 p.f1.f1][i]?
  | [], j, i, p, h, _ => by simp at h
  | x :: l, 0, i, p, h, hi => by
    obtain rfl := Option.some.inj h
    rw [cellsN, Nat.zero_mul, Nat.zero_add]
    match i, hi with
    | 0, _ => rfl
    | 1, _ => rfl
    | 2, _ => rfl
  | x :: l, j + 1, i, p, h, hi => by
    have h' : l[j]? = some p := by simpa using h
    rw [cellsN, show (j + 1) * 3 + i = (j * 3 + i) + 3 by omega]
    simp only [List.getElem?_cons_succ]
    exact cellsN_get l j i p h' hi
theorem addr_at (g n : Nat) : (⟨g, 0, none⟩ : Addr).add n = ⟨g, n, none⟩ := by unfold Addr.add; split <;> simp_all
theorem ownNodes_C {w : World} {base g n cap : Nat} {xs : List SNode} (h : w.ownsRow base 46 3 (.slice (some ⟨g, 0, none⟩) n cap) n (cellsN xs)) : xs.length = n ∧ n ≤ cap ∧ Kd.C kNode w (some ⟨g, 0, none⟩) n xs := by
  obtain ⟨hlen, h⟩ := h
  rw [cellsN_len] at hlen
  have hl : xs.length = n := by omega
  rcases h with ⟨h, _⟩ | ⟨g', cap', cur, hv, hb, hg, hcap, hmax, hsz, htk⟩
  · cases h
  · simp only [Value.slice.injEq, Option.some.injEq, Addr.mk.injEq] at hv
    obtain ⟨⟨rfl, -⟩, -, rfl⟩ := hv
    refine ⟨hl, hcap, hl, by unfold maxLen at hmax; omega, fun h0 => ⟨_, rfl, fun j p hj => ?_⟩⟩
    refine ⟨_, rfl, kNode_mk w p, fun i u hu => ?_⟩
    have hi : i < 3 := by
      rcases Nat.lt_or_ge i 3 with h | h
      · exact h
      · simp [h] at hu
    have hjn : j < xs.length := (List.getElem?_eq_some_iff.1 hj).1
    have e : kNode.sz = 3 := rfl
    rw [e, addr_at, blk_cell hg]
    have h1 := cellsN_get xs j i p hj hi
    rw [← htk, List.getElem?_take, if_pos (by omega)] at h1
    rw [hu] at h1
    simpa using h1
theorem two_at {W : World} {ad : Addr} {l : List SNode} (h : Kd.C kNode W (some ad) l.length l) (j : Nat) (hj : 2 * j + 1 < l.length) :
    ((W.cell? (ad.add (2 * j * 3)) = some (.string (l[2 * j]'(by omega)).f0) ∧ W.cell? ⟨(ad.add (2 * j * 3)).block, (ad.add (2 * j * 3)).off + 1, none⟩ = some (.int .u64 (l[2 * j]'(by omega)).f1.f0) ∧ W.cell? ⟨(ad.add (2 * j * 3)).block, (ad.add (2 * j * 3)).off + 2, none⟩ = some (.int .u64 (l[2 * j]'(by omega)).f1.f1)) ∧
     (W.cell? ((ad.add (2 * j * 3)).add 3) = some (.string l[2 * j + 1].f0) ∧ W.cell? ⟨((ad.add (2 * j * 3)).add 3).block, ((ad.add (2 * j * 3)).add 3).off + 1, none⟩ = some (.int .u64 l[2 * j + 1].f1.f0) ∧ W.cell? ⟨((ad.add (2 * j * 3)).add 3).block, ((ad.add (2 * j * 3)).add 3).off + 2, none⟩ = some (.int .u64 l[2 * j + 1].f1.f1))) := by
  obtain ⟨a1, e1, p0, p1, p2⟩ := at_TNode h ((2 * j : Nat) : Int) (by omega) (by omega)
  obtain ⟨a2, e2, q0, q1, q2⟩ := at_TNode h ((2 * j + 1 : Nat) : Int) (by omega) (by omega)
  cases e1; cases e2
  rw [rdNode_nat l (2 * j) (by omega), Int.toNat_natCast] at p0 p1 p2
  rw [rdNode_nat l (2 * j + 1) hj, Int.toNat_natCast] at q0 q1 q2
  have e3 : (ad.add (2 * j * 3)).add 3 = ad.add ((2 * j + 1) * 3) := by rw [Addr.add_add]; congr 1; omega
  rw [e3]
  exact ⟨⟨p0, p1, p2⟩, q0, q1, q2⟩
theorem two_at' {W : World} {ad : Addr} {l : List SNode} (h : Kd.C kNode W (some ad) l.length l) (j : Nat) (hj : 2 * j + 1 < l.length) (a b : SNode) (ha : a = l.getD (2 * j) zeroN) (hb : b = l.getD (2 * j + 1) zeroN) (ap : Addr) (hap : ap = ad.add (2 * j * 3)) :
    ((W.cell? ap = some (.string a.f0) ∧ W.cell? ⟨ap.block, ap.off + 1, none⟩ = some (.int .u64 a.f1.f0) ∧ W.cell? ⟨ap.block, ap.off + 2, none⟩ = some (.int .u64 a.f1.f1)) ∧
     (W.cell? ⟨ap.block, ap.off + 3, none⟩ = some (.string b.f0) ∧ W.cell? ⟨ap.block, ap.off + 3 + 1, none⟩ = some (.int .u64 b.f1.f0) ∧ W.cell? ⟨ap.block, ap.off + 3 + 2, none⟩ = some (.int .u64 b.f1.f1))) := by
  have h1 : l.getD (2 * j) zeroN = l[2 * j]'(by omega) := by simp [List.getD_eq_getElem?_getD, show 2 * j < l.length by omega]
  have h2 : l.getD (2 * j + 1) zeroN = l[2 * j + 1] := by simp [List.getD_eq_getElem?_getD, hj]
  subst ha hb hap
  rw [h1, h2]
  obtain ⟨p, q0, q1, q2⟩ := two_at h j hj
  have e3 : (ad.add (2 * j * 3)).add 3 = ⟨(ad.add (2 * j * 3)).block, (ad.add (2 * j * 3)).off + 3, none⟩ := rfl
  rw [e3] at q0 q1 q2
  exact ⟨p, q0, q1, q2⟩
structure Pr4 (W0 W : World) (x : SNode) (l : Nat → Bool) (γ : Nat) : Prop where
  hB : Below W0.heap.size W0 W
  hg : l 11 = true → W0.heap.size ≤ γ ∧ W.heap[γ]? = some (.cells (if l 12 = true then nodeA x else #[.string ⟨#[]⟩, .int .u64 0, .int .u64 0]) 46 (0, 0))
  ho : l 12 = true → l 11 = true
theorem Pr4.other {W0 W W' : World} {x : SNode} {l : Nat → Bool} {γ : Nat} (h : Pr4 W0 W x l γ) (i : Nat) (hi : i ≠ 11) (hi2 : i ≠ 12) (hb : Below W.heap.size W W') : Pr4 W0 W' x (upd l i) γ := by
  have e1 : upd l i 11 = l 11 := by unfold upd; rw [if_neg (fun e => hi e.symm)]
  have e2 : upd l i 12 = l 12 := by unfold upd; rw [if_neg (fun e => hi2 e.symm)]
  refine ⟨h.hB.trans (hb.mono h.hB.size), ?_, ?_⟩
  · rw [e1, e2]; exact fun hl => ⟨(h.hg hl).1, blk_below (h.hg hl).2 hb⟩
  · rw [e1, e2]; exact h.ho
theorem Pr4.alloc {W0 W : World} {x : SNode} {l : Nat → Bool} {γ : Nat} (h : Pr4 W0 W x l γ) (hl : l 11 = false) : Pr4 W0 (W.alloc (.cells #[.string ⟨#[]⟩, .int .u64 0, .int .u64 0] 46 (0, 0))) x (upd l 11) W.heap.size := by
  have h12 : l 12 = false := by
    cases hx : l 12 with
    | false => rfl
    | true => rw [h.ho hx] at hl; cases hl
  have e1 : upd l 11 11 = true := rfl
  have e2 : upd l 11 12 = l 12 := rfl
  refine ⟨below_alloc h.hB _, ?_, ?_⟩
  · rw [e1, e2, h12]; exact fun _ => ⟨h.hB.size, blk_new W _⟩
  · rw [e1]; exact fun _ => rfl
theorem Pr4.store {W0 W : World} {x : SNode} {l : Nat → Bool} {γ : Nat} (h : Pr4 W0 W x l γ) (ha : l 11 = true) (hl : l 12 = false) : Pr4 W0 (((W.setCell ⟨γ, 0, none⟩ (.string x.f0)).setCell ⟨γ, 1, none⟩ (.int .u64 x.f1.f0)).setCell ⟨γ, 2, none⟩ (.int .u64 x.f1.f1)) x (upd l 12) γ := by
  have e1 : upd l 12 11 = l 11 := rfl
  have e2 : upd l 12 12 = true := rfl
  obtain ⟨h1, h2⟩ := h.hg ha
  rw [hl, if_neg (by decide)] at h2
  refine ⟨below_set (below_set (below_set h.hB h1) h1) h1, ?_, ?_⟩
  · rw [e1, e2, if_pos rfl]; exact fun _ => ⟨h1, put3 (z := ⟨⟨#[]⟩, ⟨0, 0⟩⟩) h2 x⟩
  · rw [e1]; exact fun _ => ha
abbrev closV (B : Nat) : Value := .func (.func 76) #[] #[.pointer (some ⟨B, 0, none⟩)]
structure PrS (w : World) (B m b3 b4 b5 bx b6 : Nat) (done : List SNode) (r4 : Value) (r5 : Int) (W : World) : Prop where
  n3 : b3 = w.heap.size
  n4 : b4 = w.heap.size + 1
  n5 : b5 = w.heap.size + 2
  nx : bx = w.heap.size + 3
  n6 : b6 = w.heap.size + 4
  h3 : W.heap[b3]? = some (.cells #[closV B] 133 (0, 0))
  h4 : W.heap[b4]? = some (.cells #[r4] 43 (0, 0))
  h5 : W.heap[b5]? = some (.cells #[.int .i64 r5] 26 (0, 0))
  own : W.ownsRow w.heap.size 46 3 (.slice (some ⟨bx, 0, none⟩) done.length m) done.length (cellsN done)
  h6 : W.heap[b6]? = some (.cells #[.slice (some ⟨bx, 0, none⟩) done.length m] 43 (0, 0))
  hB : Below w.heap.size w W
theorem PrS.lt {w W : World} {B m b3 b4 b5 bx b6 : Nat} {done : List SNode} {r4 : Value} {r5 : Int} (h : PrS w B m b3 b4 b5 bx b6 done r4 r5 W) : w.heap.size + 4 < W.heap.size := by have := blk_lt h.h6; rw [h.n6] at this; exact this
theorem own_keep {w w' : World} {base n m g : Nat} {xs : List Value} {e : TypeId} {size : Nat} (h : w.ownsRow base e size (.slice (some ⟨g, 0, none⟩) n m) n xs) (hk : w'.heap[g]? = w.heap[g]?) : w'.ownsRow base e size (.slice (some ⟨g, 0, none⟩) n m) n xs := by
  obtain ⟨hlen, h⟩ := h
  refine ⟨hlen, ?_⟩
  rcases h with ⟨h, _⟩ | ⟨g', cap', cur, hv, hb, hg, hr⟩
  · cases h
  · have e : g' = g := by simp only [Value.slice.injEq, Option.some.injEq, Addr.mk.injEq] at hv; exact hv.1.1.symm
    subst e
    exact .inr ⟨_, cap', cur, hv, hb, hk.trans hg, hr⟩
theorem PrS.keep {w W W' : World} {B m b3 b4 b5 bx b6 : Nat} {done : List SNode} {r4 : Value} {r5 : Int} (h : PrS w B m b3 b4 b5 bx b6 done r4 r5 W) (hk : ∀ k, k ≤ w.heap.size + 4 → W'.heap[k]? = W.heap[k]?) (hB : Below w.heap.size w W') : PrS w B m b3 b4 b5 bx b6 done r4 r5 W' :=
  ⟨h.n3, h.n4, h.n5, h.nx, h.n6, (hk _ (by have := h.n3; omega)).trans h.h3, (hk _ (by have := h.n4; omega)).trans h.h4, (hk _ (by have := h.n5; omega)).trans h.h5, own_keep h.own (hk _ (by have := h.nx; omega)), (hk _ (by have := h.n6; omega)).trans h.h6, hB⟩
theorem PrS.below {w W W' : World} {B m b3 b4 b5 bx b6 : Nat} {done : List SNode} {r4 : Value} {r5 : Int} (h : PrS w B m b3 b4 b5 bx b6 done r4 r5 W) (hb : Below W.heap.size W W') : PrS w B m b3 b4 b5 bx b6 done r4 r5 W' :=
  h.keep (fun k h2 => hb.block k (by have := h.lt; omega)) (h.hB.trans (hb.mono h.hB.size))
theorem PrS.grown {w X Y : World} {B m b3 b4 b5 bx b6 C : Nat} {done : List SNode} {r4 : Value} {r5 : Int} {row : Option Nat} (h : PrS w B m b3 b4 b5 bx b6 done r4 r5 X) (hg : X.grownBy Y row) (hlt : w.heap.size + 4 < C) (hr : ∀ r, row = some r → C ≤ r) : PrS w B m b3 b4 b5 bx b6 done r4 r5 Y := by
  have hl := h.lt
  have hk : ∀ k, k ≤ w.heap.size + 4 → Y.heap[k]? = X.heap[k]? := fun k hk => hg.block k (by omega) (fun e => by have := hr k e.symm; omega)
  exact h.keep hk ⟨hg.os.trans h.hB.os, hg.tape.trans h.hB.tape, hg.output.trans h.hB.output, Nat.le_trans h.hB.size hg.size, fun i hi => (hk i (by omega)).trans (h.hB.block i hi)⟩
theorem PrS.more {w W W' : World} {B m b3 b4 b5 bx b6 : Nat} {done : List SNode} {r4 : Value} {r5 : Int} (x : SNode) (h : PrS w B m b3 b4 b5 bx b6 done r4 r5 W) (hg : W.grownBy W' (some bx)) (hown : W'.ownsRow w.heap.size 46 3 (.slice (some ⟨bx, 0, none⟩) (done.length + 1) m) (done.length + 1) (cellsN done ++ [.string x.f0, .int .u64 x.f1.f0, .int .u64 x.f1.f1])) :
    PrS w B m b3 b4 b5 bx b6 (done ++ [x]) r4 r5 (W'.setCell ⟨b6, 0, none⟩ (.slice (some ⟨bx, 0, none⟩) (done.length + 1) m)) := by
  have hl := h.lt
  have n3 := h.n3; have n4 := h.n4; have n5 := h.n5; have nx := h.nx; have n6 := h.n6
  have hk : ∀ k, k ≤ w.heap.size + 4 → k ≠ bx → W'.heap[k]? = W.heap[k]? := fun k hk hn => hg.block k (by omega) (fun e => hn (Option.some.inj e))
  have hlen : (done ++ [x]).length = done.length + 1 := by simp
  refine ⟨n3, n4, n5, nx, n6, blk_far ((hk _ (by omega) (by omega)).trans h.h3) (by (try dsimp only); omega) _, blk_far ((hk _ (by omega) (by omega)).trans h.h4) (by (try dsimp only); omega) _, blk_far ((hk _ (by omega) (by omega)).trans h.h5) (by (try dsimp only); omega) _, ?_, ?_, ?_⟩
  · rw [hlen, cellsN_append]
    exact own_keep hown (Below.heap_setCell _ _ _ _ (by (try dsimp only); omega))
  · rw [hlen]
    exact blk_put ((hk _ (by omega) (by omega)).trans h.h6) 0 _ rfl
  · have hB : Below w.heap.size w W' := ⟨hg.os.trans h.hB.os, hg.tape.trans h.hB.tape, hg.output.trans h.hB.output, Nat.le_trans h.hB.size hg.size, fun i hi => (hk i (by omega) (by omega)).trans (h.hB.block i hi)⟩
    exact below_set hB (by (try dsimp only); omega)
theorem PrS.put {w W : World} {B m b3 b4 b5 bx b6 : Nat} {done : List SNode} {r4 : Value} {r5 : Int} (h : PrS w B m b3 b4 b5 bx b6 done r4 r5 W) (v : Value) (e : Int) : PrS w B m b3 b4 b5 bx b6 done v e ((W.setCell ⟨b4, 0, none⟩ v).setCell ⟨b5, 0, none⟩ (.int .i64 e)) := by
  have n3 := h.n3; have n4 := h.n4; have n5 := h.n5; have nx := h.nx; have n6 := h.n6
  exact ⟨n3, n4, n5, nx, n6, blk_far (blk_far h.h3 (by (try dsimp only); omega) _) (by (try dsimp only); omega) _, blk_far (blk_put h.h4 0 _ rfl) (by (try dsimp only); omega) _, blk_put (blk_far h.h5 (by (try dsimp only); omega) _) 0 _ rfl,
    own_keep (own_keep h.own (Below.heap_setCell _ _ _ _ (by (try dsimp only); omega))) (Below.heap_setCell _ _ _ _ (by (try dsimp only); omega)), blk_far (blk_far h.h6 (by (try dsimp only); omega) _) (by (try dsimp only); omega) _, below_set (below_set h.hB (by (try dsimp only); omega)) (by (try dsimp only); omega)⟩
end Go.Proofs.YtfcodmdckcihmaaDoor.P
namespace Go.Proofs.YtfcodmdckcihmaaDoor.P
open Go.RowKit Go.Proofs.YtfcodmdckcihmaaDoorW.PrintWords Go.Proofs.YtfcodmdckcihmaaDoorW.PrintLast Go.Proofs.YtfcodmdckcihmaaDoorW.PrintMore
set_option linter.unusedVariables false
set_option linter.unusedSimpArgs false
set_option linter.unnecessarySimpa false
attribute [local go_sem] sel_true
theorem pow_small (h : Nat) (hh : h ≤ 10) : wrap64 ((2 : Int) ^ h) = ((2 ^ h : Nat) : Int) := by
 have h1 : 2 ^ h ≤ 2 ^ 10 := Nat.pow_le_pow_right (by decide) hh
 have e : ((2 ^ h : Nat) : Int) = (2 : Int) ^ h := by simp
 rw [← e]
 revert h1
 generalize 2 ^ h = p
 intro h1
 exact wrap64_id (by omega) (by omega)
theorem len_all : ∀ n ∈ List.range 1025, n ≠ 0 → Lib.bitLen n = (Lib.bitLen n - 1) + 1 ∧ Lib.bitLen n - 1 ≤ 10 ∧ (n == 2 ^ (Lib.bitLen n - 1)) = isPow n := by decide +kernel
set_option maxRecDepth 100000 in
theorem height.calls (n : Nat) (w : World) (hn : n ≤ 1024) : Calls Tryd.prog 55 #[.int .i64 (n : Int)] w fun e w' => (∃ h, e = .returned (.tuple #[.int .i64 h, .bool (isPow n)])) ∧ w = w' := by
 have hw : IntKind.u64.wrap (n : Int) = (n : Int) := wrapu64_id (by omega) (by omega)
 by_cases h0 : n = 0
 ·
  subst h0
  go_enter Tryd.func55, Tryd.ntmps55
  go_wp2_with fail
  refine (Tryd.bits_Len 0 w (by decide) (by decide)).mono ?_
  rintro e w1 ⟨rfl, rfl⟩
  go_wp2
  go_ret2
  exact ⟨⟨_, rfl⟩, rfl⟩
 ·
  obtain ⟨e1, e2, e3⟩ := len_all n (List.mem_range.2 (by omega)) h0
  have q := Tryd.bits_Len (n : Int) w (by omega) (by omega)
  rw [Int.toNat_natCast, e1] at q
  generalize Lib.bitLen n - 1 = h at e2 e3 q
  clear e1
  have w1 : wrap64 (((h + 1 : Nat) : Int) - 1) = (h : Int) := by rw [wrap64_id (by omega) (by omega)]; omega
  have b1 : decide ((0 : Int) < (n : Int)) = true := decide_eq_true (by omega)
  have b2 : decide (0 < n) = true := decide_eq_true (by omega)
  have b4 : decide ((h : Int) ≤ 10) = true := decide_eq_true (by omega)
  have b5 : decide (h ≤ 10) = true := decide_eq_true (by omega)
  have b3 : ((n : Int) == ((2 ^ h : Nat) : Int)) = isPow n := by
   rw [← e3, Bool.eq_iff_iff, beq_iff_eq, beq_iff_eq]
   exact Int.ofNat_inj
  rw [← pow_small h e2] at b3
  have Q := aM' q
  clear q e3
  cases hp : isPow n with
  | true =>
   rw [hp] at b3
   go_enter Tryd.func55, Tryd.ntmps55
   go_wp2_with fail
   refine Q.out.mono ?_
   rintro e w1 ⟨rfl, rfl⟩
   go_wp2
   go_ret2
   exact ⟨⟨_, rfl⟩, rfl⟩
  | false =>
   rw [hp] at b3
   go_enter Tryd.func55, Tryd.ntmps55
   go_wp2_with fail
   refine Q.out.mono ?_
   rintro e w1 ⟨rfl, rfl⟩
   go_wp2
   go_ret2
   exact ⟨⟨_, rfl⟩, rfl⟩
structure OkL (x : SLeaf) : Prop where
 id : x.f1.size ≤ 1000000
 sa : x.f2.size ≤ 1000000
 ub : OkU x.f3
def newI (wd : Int) (l : List SLeaf) : Int :=
 if wd < 1 ∨ 32 < wd then 70 else if isPow l.length = false then 120 else if l.all mayLeafI = false then 130 else if totL (l.map (leafNodeI wd)) < 340282366920938463463374607431768211456 then 0 else 10
structure NwB (w : World) (wd : Int) (W : World) : Prop where
 h2 : W.heap[w.heap.size]? = some (.cells #[.int .i64 wd] 3 (0, 0))
 h4 : W.heap[w.heap.size + 1]? = some (.cells #[.pointer none] 25 (0, 0))
 h5 : W.heap[w.heap.size + 1 + 1]? = some (.cells #[.int .i64 0] 26 (0, 0))
 hB : Below w.heap.size w W
theorem NwB.lt {w W : World} {wd : Int} (h : NwB w wd W) : w.heap.size + 1 + 1 < W.heap.size := blk_lt h.h5
theorem NwB.keep {w W W' : World} {wd : Int} (h : NwB w wd W) (hk : ∀ k, k < w.heap.size + 3 → W'.heap[k]? = W.heap[k]?) (hB : Below w.heap.size w W') : NwB w wd W' := ⟨(hk _ (by omega)).trans h.h2, (hk _ (by omega)).trans h.h4, (hk _ (by omega)).trans h.h5, hB⟩
theorem NwB.below {w W W' : World} {wd : Int} (h : NwB w wd W) (hb : Below W.heap.size W W') : NwB w wd W' := h.keep (fun k hk => hb.block k (by have := h.lt; omega)) (h.hB.trans (hb.mono h.hB.size))
theorem NwB.grown {w X Y : World} {wd : Int} {row : Option Nat} (h : NwB w wd X) (hg : X.grownBy Y row) (hr : ∀ r, row = some r → w.heap.size + 3 ≤ r) : NwB w wd Y := by
 have hl := h.lt
 have hk : ∀ k, k < w.heap.size + 3 → Y.heap[k]? = X.heap[k]? := fun k hk => hg.block k (by omega) (fun e => by have := hr k e.symm; omega)
 exact h.keep hk ⟨hg.os.trans h.hB.os, hg.tape.trans h.hB.tape, hg.output.trans h.hB.output, Nat.le_trans h.hB.size hg.size, fun i hi => (hk i (by omega)).trans (h.hB.block i hi)⟩
theorem NwB.start (w : World) (wd : Int) : NwB w wd (((w.alloc (.cells #[.int .i64 wd] 3)).alloc (.cells #[.pointer none] 25)).alloc (.cells #[.int .i64 0] 26)) := by
 refine ⟨blk_alloc (blk_alloc (blk_new w _) _) _, blk_alloc ?_ _, ?_, below_alloc (below_alloc (below_alloc (Below.refl _ _) _) _) _⟩
 ·
  have := blk_new (w.alloc (.cells #[.int .i64 wd] 3)) (.cells #[.pointer none] 25); rwa [World.size_alloc] at this
 ·
  have := blk_new ((w.alloc (.cells #[.int .i64 wd] 3)).alloc (.cells #[.pointer none] 25)) (.cells #[.int .i64 0] 26); rwa [World.size_alloc, World.size_alloc] at this
theorem new_results (tmps : Array Value) (W : World) (g4 g5 : Nat) (v e : Value) (h4 : tmps.getD 4 undef = .pointer (some ⟨g4, 0, none⟩)) (h5 : tmps.getD 5 undef = .pointer (some ⟨g5, 0, none⟩)) (hg4 : W.heap[g4]? = some (.cells #[v] 25 (0, 0))) (hg5 : W.heap[g5]? = some (.cells #[e] 26 (0, 0))) :
  (results Tryd.f14 tmps).run Tryd.prog W = .ok (.tuple #[v, e]) W := by
 have h4' : tmps[4]?.getD undef = .pointer (some ⟨g4, 0, none⟩) := by simpa using h4
 have h5' : tmps[5]?.getD undef = .pointer (some ⟨g5, 0, none⟩) := by simpa using h5
 have hr : Tryd.f14.results = #[.cell 4 25, .cell 5 26] := rfl
 have hc : W.cell? ⟨g5, 0, none⟩ = some e := blk_cell hg5 0
 have hd : W.cell? ⟨g4, 0, none⟩ = some v := blk_cell hg4 0
 have hu := Tryd.underlying26
 have hu2 := Tryd.underlying25
 have h1 : (loadVar 25 ⟨g4, 0, none⟩).run Tryd.prog W = .ok v W := by go_simp
 have h2 : (loadVar 26 ⟨g5, 0, none⟩).run Tryd.prog W = .ok e W := by go_simp
 simp [results, hr, h4', h5', asAddr, h1, h2]
structure ButD (ds : List Nat) (W W' : World) : Prop where
 os : W'.os = W.os
 tape : W'.tape = W.tape
 output : W'.output = W.output
 size : W'.heap.size = W.heap.size
 heap : ∀ k, k ∉ ds → W'.heap[k]? = W.heap[k]?
abbrev markD (D : Nat) : Deferred := { target := .collected D, args := #[] }
theorem leavesD {fn : Func} {tmps : Array Value} {R : Ending → World → Prop} (v : Value) : ∀ (ds : List Nat) (W : World), ds.Nodup → (∀ D ∈ ds, W.heap[D]? = some (.deferred (some []))) → (∀ W', ButD ds W W' → (results fn tmps).run Tryd.prog W' = .ok v W' ∧ R (.returned v) W') → LeavesInM Fence.wide 3 Tryd.prog fn tmps R (ds.map markD) .returning W
 | [], W, _, _, h => by
  obtain ⟨h1, h2⟩ := h W ⟨rfl, rfl, rfl, rfl, fun _ _ => rfl⟩
  exact ⟨_, h1, h2⟩
 | D :: ds, W, hn, hd, h => by
  have hD := hd D (List.mem_cons_self ..)
  obtain ⟨h1, h2⟩ := List.nodup_cons.1 hn
  refine ⟨by simp, .inl ⟨_, _, rfl, run_takeDeferred hD, ?_⟩⟩
  refine leavesD v ds _ h2 (fun D' hD' => (World.putObj_heap_other (by intro e; subst e; exact h1 hD')).trans (hd D' (List.mem_cons_of_mem _ hD'))) (fun W' hW' => h W' ⟨hW'.os, hW'.tape, hW'.output, hW'.size.trans (by simp), fun k hk => ?_⟩)
  rw [hW'.heap k (fun e => hk (List.mem_cons_of_mem _ e))]
  exact World.putObj_heap_other (by intro e; subst e; exact hk (List.mem_cons_self ..))
theorem retD {fn : Func} {tmps : Array Value} {R : Ending → World → Prop} {ds : List Nat} {W : World} (v : Value) (hn : ds.Nodup) (hd : ∀ D ∈ ds, W.heap[D]? = some (.deferred (some []))) (h : ∀ W', ButD ds W W' → (results fn tmps).run Tryd.prog W' = .ok v W' ∧ R (.returned v) W') :
  bodyPostM Fence.wide 3 Tryd.prog fn R .ret { tmps := tmps, defers := ds.map markD } W := leavesD v ds W hn hd h
theorem ret0 {fn : Func} {tmps : Array Value} {R : Ending → World → Prop} {W : World} (v : Value) (h : (results fn tmps).run Tryd.prog W = .ok v W) (hR : R (.returned v) W) :
  bodyPostM Fence.wide 3 Tryd.prog fn R .ret { tmps := tmps, defers := [] } W := ⟨_, h, hR⟩
theorem NwB.put {w W : World} {wd : Int} (h : NwB w wd W) (v e : Value) : ((W.setCell ⟨w.heap.size + 1, 0, none⟩ v).setCell ⟨w.heap.size + 1 + 1, 0, none⟩ e).heap[w.heap.size + 1]? = some (.cells #[v] 25 (0, 0)) ∧
  ((W.setCell ⟨w.heap.size + 1, 0, none⟩ v).setCell ⟨w.heap.size + 1 + 1, 0, none⟩ e).heap[w.heap.size + 1 + 1]? = some (.cells #[e] 26 (0, 0)) ∧ Below w.heap.size w ((W.setCell ⟨w.heap.size + 1, 0, none⟩ v).setCell ⟨w.heap.size + 1 + 1, 0, none⟩ e) :=
 ⟨blk_far (blk_put h.h4 0 v rfl) (by (try dsimp only); omega) _, blk_put (blk_far h.h5 (by (try dsimp only); omega) _) 0 e rfl, below_set (below_set h.hB (by (try dsimp only); omega)) (by (try dsimp only); omega)⟩
abbrev acL (l : SLeaf) : Array Value := #[.bool l.f0, .string l.f1, .string l.f2, .int .u64 l.f3.f0, .int .u64 l.f3.f1]
theorem ownB {W W' : World} {base n size : Nat} {e : TypeId} {v : Value} {xs : List Value} (h : W.ownsRow base e size v n xs) (hb : Below W.heap.size W W') : W'.ownsRow base e size v n xs := by
 obtain ⟨hlen, h⟩ := h
 refine ⟨hlen, ?_⟩
 rcases h with h | ⟨g', cap', cur, hv, hbb, hg, hr⟩
 ·
  exact .inl h
 ·
  exact .inr ⟨g', cap', cur, hv, hbb, blk_below hg hb, hr⟩
theorem wp_forget {P : Program} {c : Code} {Q : Exit → Act → World → Prop} {a : Act} {W : World} (F : (Nat → Value) → Act) (ha : a = F (fun i => a.tmps.getD i undef)) (h : ∀ x, Code.wp P c Q (F x) W) : Code.wp P c Q a W := by
 rw [ha]; exact h _
structure Nw15 (W0 W : World) (wd : Int) (lf : List SLeaf) (l : Nat → Bool) (γ κ δ : Nat) : Prop where
 hB : Below W0.heap.size W0 W
 hl : l 2 = true → W0.heap.size ≤ γ ∧ γ < W.heap.size ∧ W.ownsRow W0.heap.size 36 5 (.slice (some ⟨γ, 0, none⟩) lf.length κ) lf.length (cellsL lf)
 o3 : l 3 = true → l 2 = true
 o4 : l 4 = true → l 2 = true
 o5 : l 5 = true → l 4 = true
 ht : l 4 = true → W0.heap.size ≤ δ ∧ δ ≠ γ ∧ W.heap[δ]? = some (.cells #[.int .i64 wd, .slice (some ⟨γ, 0, none⟩) lf.length κ, .slice none 0 0] 105 (0, 0))
theorem Nw15.same {W0 W : World} {wd : Int} {lf : List SLeaf} {l : Nat → Bool} {γ κ δ : Nat} (h : Nw15 W0 W wd lf l γ κ δ) (i : Nat) (h2 : i < 2) : Nw15 W0 W wd lf (upd l i) γ κ δ := by
 have e2 : upd l i 2 = l 2 := by unfold upd; rw [if_neg (by omega)]
 have e3 : upd l i 3 = l 3 := by unfold upd; rw [if_neg (by omega)]
 have e4 : upd l i 4 = l 4 := by unfold upd; rw [if_neg (by omega)]
 have e5 : upd l i 5 = l 5 := by unfold upd; rw [if_neg (by omega)]
 exact ⟨h.hB, by rw [e2]; exact h.hl, by rw [e2, e3]; exact h.o3, by rw [e2, e4]; exact h.o4, by rw [e5, e4]; exact h.o5, by rw [e4]; exact h.ht⟩
theorem Nw15.three {W0 W : World} {wd : Int} {lf : List SLeaf} {l : Nat → Bool} {γ κ δ : Nat} (h : Nw15 W0 W wd lf l γ κ δ) (h2 : l 2 = true) : Nw15 W0 W wd lf (upd l 3) γ κ δ :=
 ⟨h.hB, h.hl, fun _ => h2, h.o4, h.o5, h.ht⟩
theorem Nw15.five {W0 W : World} {wd : Int} {lf : List SLeaf} {l : Nat → Bool} {γ κ δ : Nat} (h : Nw15 W0 W wd lf l γ κ δ) (h4 : l 4 = true) : Nw15 W0 W wd lf (upd l 5) γ κ δ :=
 ⟨h.hB, h.hl, h.o3, h.o4, fun _ => h4, h.ht⟩
theorem Nw15.no3 {W0 W : World} {wd : Int} {lf : List SLeaf} {l : Nat → Bool} {γ κ δ : Nat} (h : Nw15 W0 W wd lf l γ κ δ) (h2 : l 2 = false) : l 3 = false := by
 cases hx : l 3 with
 | false => rfl
 | true => rw [h.o3 hx] at h2; cases h2
theorem Nw15.no5 {W0 W : World} {wd : Int} {lf : List SLeaf} {l : Nat → Bool} {γ κ δ : Nat} (h : Nw15 W0 W wd lf l γ κ δ) (h4 : l 4 = false) : l 5 = false := by
 cases hx : l 5 with
 | false => rfl
 | true => rw [h.o5 hx] at h4; cases h4
theorem Nw15.clone {W0 W W' : World} {wd : Int} {lf : List SLeaf} {l : Nat → Bool} {γ κ δ g cap : Nat} (h : Nw15 W0 W wd lf l γ κ δ) (h2 : l 2 = false) (hb : Below W.heap.size W W') (ho : W'.ownsRow W.heap.size 36 5 (.slice (some ⟨g, 0, none⟩) lf.length cap) lf.length (cellsL lf)) (hg : g < W'.heap.size) (hn : 1 ≤ lf.length) : Nw15 W0 W' wd lf (upd l 2) g cap δ := by
 have e4 : upd l 2 4 = l 4 := rfl
 have e3 : upd l 2 3 = l 3 := rfl
 have h4 : l 4 = false := by
  cases hx : l 4 with
  | false => rfl
  | true => rw [h.o4 hx] at h2; cases h2
 have hge : W.heap.size ≤ g := (ho.lt g rfl).1
 refine ⟨h.hB.trans (hb.mono h.hB.size), fun _ => ⟨Nat.le_trans h.hB.size hge, hg, ?_⟩, (fun _ => rfl), (fun _ => rfl), h.o5, fun h' => by rw [e4, h4] at h'; cases h'⟩
 obtain ⟨hlen, ho⟩ := ho
 refine ⟨hlen, ?_⟩
 rcases ho with ⟨h1, h2⟩ | ⟨g', cap', cur, hv, hbb, hr⟩
 ·
  exact .inl ⟨h1, h2⟩
 ·
  exact .inr ⟨g', cap', cur, hv, Nat.le_trans h.hB.size hbb, hr⟩
theorem Nw15.box {W0 W : World} {wd : Int} {lf : List SLeaf} {l : Nat → Bool} {γ κ δ : Nat} (h : Nw15 W0 W wd lf l γ κ δ) (h3' : l 3 = true) : Nw15 W0 (W.alloc (.cells #[.int .i64 wd, .slice (some ⟨γ, 0, none⟩) lf.length κ, .slice none 0 0] 105 (0, 0))) wd lf (upd l 4) γ κ W.heap.size := by
 have h2 := h.o3 h3'
 obtain ⟨h1, h3, h5⟩ := h.hl h2
 exact ⟨below_alloc h.hB _, fun _ => ⟨h1, by rw [World.size_alloc]; omega, ownB h5 (below_alloc (Below.refl _ _) _)⟩, h.o3, (fun _ => h2), (fun _ => rfl), fun _ => ⟨h.hB.size, by omega, blk_new W _⟩⟩
end Go.Proofs.YtfcodmdckcihmaaDoor.P
namespace Go.Proofs.YtfcodmdckcihmaaDoor.P
open Go.RowKit Go.Proofs.YtfcodmdckcihmaaDoorW.PrintWords Go.Proofs.YtfcodmdckcihmaaDoorW.PrintLast Go.Proofs.YtfcodmdckcihmaaDoorW.PrintMore
set_option linter.unusedVariables false
set_option linter.unusedSimpArgs false
set_option linter.unnecessarySimpa false
abbrev RowG := Nat × Nat
theorem levelInfo : (Tryd.prog.info? 109).map (fun i => (i.zero, i.size, i.bytes)) = some (some (.agg #[.slice none 0 0, .int .i64 0]), 2, 32) := by kernel_rfl
def cellsV : Nat → List RowG → List (List SNode) → List Value
 | i, p :: gs, r :: rs => .slice (some ⟨p.1, 0, none⟩) r.length p.2 :: .int .i64 (i : Int) :: cellsV (i + 1) gs rs
 | _, _, _ => []
theorem cellsV_snoc (p : RowG) (r : List SNode) : ∀ (i : Nat) (gs : List RowG) (rs : List (List SNode)), gs.length = rs.length → cellsV i (gs ++ [p]) (rs ++ [r]) = cellsV i gs rs ++ [.slice (some ⟨p.1, 0, none⟩) r.length p.2, .int .i64 ((i + rs.length : Nat) : Int)]
 | i, [], [], _ => rfl
 | i, _ :: gs, _ :: rs, h => by
  have := cellsV_snoc p r (i + 1) gs rs (by simpa using h)
  rw [List.cons_append, List.cons_append, cellsV, cellsV, this]
  simp only [List.cons_append, List.length_cons]
  rw [show i + 1 + rs.length = i + (rs.length + 1) by omega]
abbrev rowV (p : RowG) (r : List SNode) : Value := .slice (some ⟨p.1, 0, none⟩) r.length p.2
def OwnRows (W : World) (base : Nat) : List RowG → List (List SNode) → Prop
 | p :: gs, r :: rs => W.ownsRow base 46 3 (rowV p r) r.length (cellsN r) ∧ OwnRows W base gs rs
 | [], [] => True
 | _, _ => False
theorem OwnRows.len {W : World} {base : Nat} : ∀ {gs : List RowG} {rs : List (List SNode)}, OwnRows W base gs rs → gs.length = rs.length
 | [], [], _ => rfl
 | _ :: _, _ :: _, h => by rw [List.length_cons, List.length_cons, OwnRows.len h.2]
theorem OwnRows.snoc {W : World} {base : Nat} {p : RowG} {r : List SNode} (hr : W.ownsRow base 46 3 (rowV p r) r.length (cellsN r)) : ∀ {gs : List RowG} {rs : List (List SNode)}, OwnRows W base gs rs → OwnRows W base (gs ++ [p]) (rs ++ [r])
 | [], [], _ => ⟨hr, trivial⟩
 | _ :: _, _ :: _, h => ⟨h.1, h.2.snoc hr⟩
theorem OwnRows.keep {W W' : World} {base : Nat} : ∀ {gs : List RowG} {rs : List (List SNode)}, OwnRows W base gs rs → (∀ k ∈ gs.map Prod.fst, W'.heap[k]? = W.heap[k]?) → OwnRows W' base gs rs
 | [], [], _, _ => trivial
 | p :: gs, r :: rs, h, hk => ⟨own_keep h.1 (hk p.1 (by simp)), h.2.keep (fun k h => hk k (by simp at h ⊢; exact .inr h))⟩
theorem OwnRows.lt {W : World} {base : Nat} : ∀ {gs : List RowG} {rs : List (List SNode)}, OwnRows W base gs rs → ∀ k ∈ gs.map Prod.fst, base ≤ k ∧ k < W.heap.size
 | [], [], _, k, hk => by cases hk
 | p :: gs, r :: rs, h, k, hk => by
  rw [List.map_cons] at hk
  rcases List.mem_cons.1 hk with rfl | hk
  ·
   exact h.1.lt _ rfl
  ·
   exact h.2.lt k hk
theorem ownAny_keep {w w' : World} {base n size : Nat} {xs : List Value} {e : TypeId} {v : Value} (h : w.ownsRow base e size v n xs) (hk : ∀ g, v.ownBlock = some g → w'.heap[g]? = w.heap[g]?) : w'.ownsRow base e size v n xs := by
 obtain ⟨hlen, h⟩ := h
 refine ⟨hlen, ?_⟩
 rcases h with h | ⟨g', cap', cur, hv, hb, hg, hr⟩
 ·
  exact .inl h
 ·
  exact .inr ⟨_, cap', cur, hv, hb, (hk g' (by rw [hv]; rfl)).trans hg, hr⟩
theorem own_cells {w : World} {base n size : Nat} {xs : List Value} {e : TypeId} {v : Value} {g : Nat} (h : w.ownsRow base e size v n xs) (hg : v.ownBlock = some g) : ∃ cs, w.heap[g]? = some (.cells cs e (0, 0)) := by
 rcases h.2 with ⟨h, _⟩ | ⟨g', cap', cur, hv, hb, hg', hr⟩
 ·
  rw [h] at hg; cases hg
 ·
  rw [hv] at hg
  obtain rfl : g' = g := Option.some.inj hg
  exact ⟨cur, hg'⟩
structure NwT (w : World) (wd : Int) (lf : List SLeaf) (bt gl cl : Nat) (VV : Value) (gs : List RowG) (done : List (List SNode)) (ds : List Nat) (W : World) : Prop where
 bx : NwB w wd W
 ht : W.heap[bt]? = some (.cells #[.int .i64 wd, .slice (some ⟨gl, 0, none⟩) lf.length cl, VV] 105 (0, 0))
 hl : W.ownsRow (w.heap.size + 3) 36 5 (.slice (some ⟨gl, 0, none⟩) lf.length cl) lf.length (cellsL lf)
 hv : W.ownsRow (w.heap.size + 3) 109 2 VV done.length (cellsV 0 gs done)
 hg : OwnRows W (w.heap.size + 3) gs done
 ap : (bt :: gl :: gs.map Prod.fst).Nodup
 av : ∀ k, VV.ownBlock = some k → k ∉ bt :: gl :: gs.map Prod.fst
 lo : w.heap.size + 3 ≤ bt
 dn : ds.Nodup
 hd : ∀ D ∈ ds, W.heap[D]? = some (.deferred (some []))
structure NwT.Off (w : World) (bt gl : Nat) (VV : Value) (gs : List RowG) (W : World) (k : Nat) : Prop where
 lo : w.heap.size + 3 ≤ k
 ap : k ∉ bt :: gl :: gs.map Prod.fst
 av : VV.ownBlock ≠ some k
 cs : ∃ c t f, W.heap[k]? = some (.cells c t f)
theorem NwT.size {w : World} {wd : Int} {lf : List SLeaf} {bt gl cl : Nat} {VV : Value} {gs : List RowG} {done : List (List SNode)} {ds : List Nat} {W : World} (h : NwT w wd lf bt gl cl VV gs done ds W) : ∀ k ∈ bt :: gl :: gs.map Prod.fst, w.heap.size + 3 ≤ k ∧ k < W.heap.size := by
 intro k hk
 rcases List.mem_cons.1 hk with rfl | hk
 ·
  exact ⟨h.lo, blk_lt h.ht⟩
 rcases List.mem_cons.1 hk with rfl | hk
 ·
  exact h.hl.lt _ rfl
 ·
  exact h.hg.lt k hk
theorem NwT.keep {w : World} {wd : Int} {lf : List SLeaf} {bt gl cl : Nat} {VV : Value} {gs : List RowG} {done : List (List SNode)} {ds : List Nat} {W W' : World} (h : NwT w wd lf bt gl cl VV gs done ds W) (X : Nat → Prop) (hX : ∀ k, X k → NwT.Off w bt gl VV gs W k) (hk : ∀ k, k < W.heap.size → ¬ X k → W'.heap[k]? = W.heap[k]?) (hB : Below w.heap.size w W') : NwT w wd lf bt gl cl VV gs done ds W' := by
 have hs := h.size
 have hlt := h.bx.lt
 have hin : ∀ k ∈ bt :: gl :: gs.map Prod.fst, W'.heap[k]? = W.heap[k]? := fun k hm => hk k (hs k hm).2 (fun hx => (hX k hx).ap hm)
 refine ⟨h.bx.keep (fun k hlt2 => hk k (by omega) (fun hx => by have := (hX k hx).lo; omega)) hB, (hin bt (by simp)).trans h.ht, own_keep h.hl (hin gl (by simp)), ownAny_keep h.hv (fun g hg => hk g (h.hv.lt g hg).2 (fun hx => (hX g hx).av hg)), h.hg.keep (fun k hm => hin k (by simp at hm ⊢; exact .inr (.inr hm))), h.ap, h.av, h.lo, h.dn, fun D hD => ?_⟩
 have h1 := h.hd D hD
 refine (hk D (blk_lt h1) (fun hx => ?_)).trans h1
 obtain ⟨c, t, f, h2⟩ := (hX D hx).cs
 rw [h1] at h2
 cases h2
theorem NwT.below {w : World} {wd : Int} {lf : List SLeaf} {bt gl cl : Nat} {VV : Value} {gs : List RowG} {done : List (List SNode)} {ds : List Nat} {W W' : World} (h : NwT w wd lf bt gl cl VV gs done ds W) (hb : Below W.heap.size W W') : NwT w wd lf bt gl cl VV gs done ds W' :=
 h.keep (fun _ => False) (fun _ h => h.elim) (fun k hk _ => hb.block k hk) (h.bx.hB.trans (hb.mono h.bx.hB.size))
theorem below_grown {w X Y : World} {row : Option Nat} (h : Below w.heap.size w X) (hg : X.grownBy Y row) (hr : ∀ r, row = some r → w.heap.size ≤ r) : Below w.heap.size w Y :=
 ⟨hg.os.trans h.os, hg.tape.trans h.tape, hg.output.trans h.output, Nat.le_trans h.size hg.size, fun i hi => (hg.block i (lL' hi h.size) (fun e => by have := hr i e.symm; omega)).trans (h.block i hi)⟩
theorem NwT.grown {w : World} {wd : Int} {lf : List SLeaf} {bt gl cl : Nat} {VV : Value} {gs : List RowG} {done : List (List SNode)} {ds : List Nat} {W W' : World} {row : Option Nat} (h : NwT w wd lf bt gl cl VV gs done ds W) (hg : W.grownBy W' row) (hr : ∀ r, row = some r → NwT.Off w bt gl VV gs W r) : NwT w wd lf bt gl cl VV gs done ds W' :=
 h.keep (fun k => row = some k) hr (fun k hk hn => hg.block k hk (fun e => hn e.symm)) (below_grown h.bx.hB hg (fun r e => by have := (hr r e).lo; omega))
theorem NwT.level {w : World} {wd : Int} {lf : List SLeaf} {bt gl cl : Nat} {VV : Value} {gs : List RowG} {done : List (List SNode)} {ds : List Nat} {W W' : World} {p : RowG} {cur : List SNode} {g κ : Nat}
  (h : NwT w wd lf bt gl cl VV gs done ds W) (hc : W.ownsRow (w.heap.size + 3) 46 3 (rowV p cur) cur.length (cellsN cur)) (ho : NwT.Off w bt gl VV gs W p.1)
  (hk : ∀ k, k < W.heap.size → VV.ownBlock ≠ some k → W'.heap[k]? = W.heap[k]?) (hown : W'.ownsRow (w.heap.size + 3) 109 2 (.slice (some ⟨g, 0, none⟩) (done.length + 1) κ) (done.length + 1) (cellsV 0 gs done ++ [rowV p cur, .int .i64 (done.length : Int)]))
  (hgg : VV.ownBlock = some g ∨ W.heap.size ≤ g) (hB : Below w.heap.size w W') :
  NwT w wd lf bt gl cl (.slice (some ⟨g, 0, none⟩) (done.length + 1) κ) (gs ++ [p]) (done ++ [cur]) ds (W'.setCell ⟨bt, 2, none⟩ (.slice (some ⟨g, 0, none⟩) (done.length + 1) κ)) := by
 have hs := h.size
 have hlt := h.bx.lt
 have hbt := hs bt (by simp)
 have hnot : ∀ k ∈ bt :: gl :: gs.map Prod.fst, VV.ownBlock ≠ some k := fun k hm e => h.av k e hm
 have hin : ∀ k ∈ bt :: gl :: gs.map Prod.fst, W'.heap[k]? = W.heap[k]? := fun k hm => hk k (hs k hm).2 (hnot k hm)
 have hpc : W'.heap[p.1]? = W.heap[p.1]? := hk p.1 (hc.lt _ rfl).2 ho.av
 have hpn : p.1 ∉ bt :: gl :: gs.map Prod.fst := ho.ap
 have hset : ∀ k, k ≠ bt → (W'.setCell ⟨bt, 2, none⟩ (.slice (some ⟨g, 0, none⟩) (done.length + 1) κ)).heap[k]? = W'.heap[k]? := fun k hk => Below.heap_setCell _ _ _ _ hk
 have hgn : g ∉ bt :: gl :: (gs ++ [p]).map Prod.fst := by
  intro hm
  simp only [List.map_append, List.map_cons, List.map_nil, List.mem_cons, List.mem_append, List.not_mem_nil, or_false] at hm
  have hm2 : g ∈ bt :: gl :: gs.map Prod.fst ∨ g = p.1 := by
   simp only [List.mem_cons]
   rcases hm with h1 | h1 | h1 | h1
   ·
    exact .inl (.inl h1)
   ·
    exact .inl (.inr (.inl h1))
   ·
    exact .inl (.inr (.inr h1))
   ·
    exact .inr h1
  rcases hm2 with h1 | h1
  ·
   rcases hgg with h2 | h2
   ·
    exact hnot g h1 h2
   ·
    have := (hs g h1).2; omega
  ·
   rcases hgg with h2 | h2
   ·
    exact ho.av (h1 ▸ h2)
   ·
    have := (hc.lt _ rfl).2; rw [h1] at h2; exact absurd this (by show ¬ p.1 < _; omega)
 have hgbt : g ≠ bt := fun e => hgn (by rw [e]; simp)
 have hpbt : p.1 ≠ bt := fun e => hpn (by rw [e]; simp)
 have hglbt : gl ≠ bt := fun e => by have := h.ap; rw [e] at this; simp at this
 have hgsbt : ∀ k ∈ gs.map Prod.fst, k ≠ bt := fun k hm e => by
  have := (List.nodup_cons.1 h.ap).1
  exact this (by rw [← e]; exact List.mem_cons_of_mem _ hm)
 have hlen := h.hg.len
 refine ⟨(h.bx.keep (fun k hk2 => hk k (by omega) (fun e => by have := (h.hv.lt k e).1; omega)) hB).keep (fun k hk2 => hset k (by omega)) (hB.setCell (by show w.heap.size ≤ bt; omega) _), ?_, ?_, ?_, ?_, ?_, ?_, h.lo, h.dn, ?_⟩
 ·
  exact blk_put ((hin bt (by simp)).trans h.ht) 2 _ rfl
 ·
  exact own_keep (own_keep h.hl (hin gl (by simp))) (hset gl hglbt)
 ·
  rw [List.length_append, List.length_singleton, cellsV_snoc p cur 0 gs done hlen, Nat.zero_add]
  exact own_keep hown (hset g hgbt)
 ·
  refine OwnRows.snoc (own_keep (own_keep hc hpc) (hset _ hpbt)) ((h.hg.keep (fun k hm => hin k (by simp at hm ⊢; exact .inr (.inr hm)))).keep (fun k hm => hset k (hgsbt k hm)))
 ·
  simp only [List.map_append, List.map_cons, List.map_nil]
  rw [← List.cons_append, ← List.cons_append]
  exact List.nodup_append.2 ⟨h.ap, by simp, fun a ha b hb e => by
   obtain rfl := List.mem_singleton.1 hb
   exact hpn (e ▸ ha)⟩
 ·
  intro k hk2 hm
  obtain rfl : g = k := Option.some.inj hk2
  exact hgn hm
 ·
  intro D hD
  have h1 := h.hd D hD
  have hne : D ≠ bt := fun e => by rw [e] at h1; rw [h.ht] at h1; cases h1
  rw [hset D hne]
  refine (hk D (blk_lt h1) (fun e => ?_)).trans h1
  obtain ⟨cs, h2⟩ := own_cells h.hv e
  rw [h1] at h2
  cases h2
structure Nw16 (w W0 W : World) (wd : Int) (lf : List SLeaf) (bt gl cl : Nat) (VV : Value) (gs : List RowG) (done : List (List SNode)) (ds : List Nat) (p : RowG) (cur : List SNode) (l : Nat → Bool) (γ γ2 κ : Nat) : Prop where
 hA : l 14 = false → Below W0.heap.size W0 W
 hT : l 13 = true → l 14 = false → W.heap[γ]? = some (.cells #[rowV p cur, .int .i64 (done.length : Int)] 109 (0, 0))
 hP : l 14 = true → l 17 = false → (∀ k, k < W0.heap.size → VV.ownBlock ≠ some k → W.heap[k]? = W0.heap[k]?) ∧ W.ownsRow (w.heap.size + 3) 109 2 (.slice (some ⟨γ2, 0, none⟩) (done.length + 1) κ) (done.length + 1) (cellsV 0 gs done ++ [rowV p cur, .int .i64 (done.length : Int)]) ∧ (VV.ownBlock = some γ2 ∨ W0.heap.size ≤ γ2) ∧ Below w.heap.size w W
 hQ : l 17 = true → NwT w wd lf bt gl cl (.slice (some ⟨γ2, 0, none⟩) (done.length + 1) κ) (gs ++ [p]) (done ++ [cur]) ds W
 o11 : l 11 = true → l 10 = true
 o12 : l 12 = true → l 11 = true
 o13 : l 13 = true → l 12 = true
 o14 : l 14 = true → l 13 = true ∧ l 4 = true
 o17 : l 17 = true → l 14 = true
theorem upd_or {l : Nat → Bool} {i j : Nat} : upd l i j = true ↔ j = i ∨ l j = true := by
 unfold upd
 by_cases h : j = i
 ·
  rw [if_pos h]; simp [h]
 ·
  rw [if_neg h]; simp [h]
theorem upd_no {l : Nat → Bool} {i j : Nat} (h : j ≠ i) : upd l i j = l j := by unfold upd; rw [if_neg h]
section
variable {w W0 W : World} {wd : Int} {lf : List SLeaf} {bt gl cl : Nat} {VV : Value} {gs : List RowG} {done : List (List SNode)} {ds : List Nat} {p : RowG} {cur : List SNode} {l : Nat → Bool} {γ γ2 κ : Nat}
theorem Nw16.pure (h : Nw16 w W0 W wd lf bt gl cl VV gs done ds p cur l γ γ2 κ) (i : Nat) (hi : i ≠ 13 ∧ i ≠ 14 ∧ i ≠ 17) (h11 : i = 11 → l 10 = true) (h12 : i = 12 → l 11 = true) : Nw16 w W0 W wd lf bt gl cl VV gs done ds p cur (upd l i) γ γ2 κ := by
 have e13 : upd l i 13 = l 13 := upd_no (by omega)
 have e14 : upd l i 14 = l 14 := upd_no (by omega)
 have e17 : upd l i 17 = l 17 := upd_no (by omega)
 refine ⟨by rw [e14]; exact h.hA, by rw [e13, e14]; exact h.hT, by rw [e14, e17]; exact h.hP, by rw [e17]; exact h.hQ, ?_, ?_, ?_, ?_, ?_⟩
 ·
  intro hx
  rcases upd_or.1 hx with hx | hx
  ·
   exact upd_or.2 (.inr (h11 hx.symm))
  ·
   exact upd_or.2 (.inr (h.o11 hx))
 ·
  intro hx
  rcases upd_or.1 hx with hx | hx
  ·
   exact upd_or.2 (.inr (h12 hx.symm))
  ·
   exact upd_or.2 (.inr (h.o12 hx))
 ·
  rw [e13]; exact fun hx => upd_or.2 (.inr (h.o13 hx))
 ·
  rw [e14, e13]; exact fun hx => ⟨(h.o14 hx).1, upd_or.2 (.inr (h.o14 hx).2)⟩
 ·
  rw [e17, e14]; exact h.o17
theorem Nw16.no4 (h : Nw16 w W0 W wd lf bt gl cl VV gs done ds p cur l γ γ2 κ) (hl : l 4 = false) : l 14 = false := by
 cases hx : l 14 with
 | false => rfl
 | true => rw [(h.o14 hx).2] at hl; cases hl
theorem Nw16.no13 (h : Nw16 w W0 W wd lf bt gl cl VV gs done ds p cur l γ γ2 κ) (hl : l 13 = false) : l 14 = false := by
 cases hx : l 14 with
 | false => rfl
 | true => rw [(h.o14 hx).1] at hl; cases hl
theorem Nw16.no10 (h : Nw16 w W0 W wd lf bt gl cl VV gs done ds p cur l γ γ2 κ) (hl : l 10 = false) : l 14 = false := by
 refine h.no13 ?_
 cases hx : l 13 with
 | false => rfl
 | true => rw [h.o11 (h.o12 (h.o13 hx))] at hl; cases hl
theorem Nw16.no17 (h : Nw16 w W0 W wd lf bt gl cl VV gs done ds p cur l γ γ2 κ) (hl : l 14 = false) : l 17 = false := by
 cases hx : l 17 with
 | false => rfl
 | true => rw [h.o17 hx] at hl; cases hl
theorem Nw16.made (h : Nw16 w W0 W wd lf bt gl cl VV gs done ds p cur l γ γ2 κ) (hl : l 13 = false) (h12 : l 12 = true) : Nw16 w W0 (W.alloc (.cells #[rowV p cur, .int .i64 (done.length : Int)] 109 (0, 0))) wd lf bt gl cl VV gs done ds p cur (upd l 13) W.heap.size γ2 κ := by
 have h14 := h.no13 hl
 have h17 := h.no17 h14
 have e14 : upd l 13 14 = l 14 := rfl
 have e17 : upd l 13 17 = l 17 := rfl
 exact ⟨fun _ => below_alloc (h.hA h14) _, fun _ _ => blk_new W _, (fun hx => by rw [e14, h14] at hx; cases hx), (fun hx => by rw [e17, h17] at hx; cases hx), h.o11, h.o12, fun _ => h12, (fun hx => by rw [e14, h14] at hx; cases hx), h.o17⟩
theorem Nw16.appended {W' : World} {g κ' : Nat} (h : Nw16 w W0 W wd lf bt gl cl VV gs done ds p cur l γ γ2 κ) (h0 : NwT w wd lf bt gl cl VV gs done ds W0) (hl : l 14 = false) (h13 : l 13 = true) (h4 : l 4 = true) (hgr : W.grownBy W' VV.ownBlock)
  (hown : W'.ownsRow (w.heap.size + 3) 109 2 (.slice (some ⟨g, 0, none⟩) (done.length + 1) κ') (done.length + 1) (cellsV 0 gs done ++ [rowV p cur, .int .i64 (done.length : Int)])) (hgg : VV.ownBlock = some g ∨ g = W.heap.size) :
  Nw16 w W0 W' wd lf bt gl cl VV gs done ds p cur (upd l 14) γ g κ' := by
 have h17 := h.no17 hl
 have hb := h.hA hl
 have e17 : upd l 14 17 = l 17 := rfl
 have e14 : upd l 14 14 = true := rfl
 have hsz := hb.size
 refine ⟨(fun hx => by rw [e14] at hx; cases hx), (fun _ hx => by rw [e14] at hx; cases hx), fun _ _ => ⟨fun k hk hn => (hgr.block k (by omega) (fun e => hn e.symm)).trans (hb.block k hk), hown, ?_, ?_⟩, (fun hx => by rw [e17, h17] at hx; cases hx), h.o11, h.o12, h.o13, fun _ => ⟨h13, h4⟩, fun _ => rfl⟩
 ·
  rcases hgg with hx | hx
  ·
   exact .inl hx
  ·
   exact .inr (by omega)
 ·
  exact below_grown (h0.bx.hB.trans (hb.mono h0.bx.hB.size)) hgr (fun r e => by have := (h0.hv.lt r e).1; omega)
theorem Nw16.stored (h : Nw16 w W0 W wd lf bt gl cl VV gs done ds p cur l γ γ2 κ) (h0 : NwT w wd lf bt gl cl VV gs done ds W0) (hc : W0.ownsRow (w.heap.size + 3) 46 3 (rowV p cur) cur.length (cellsN cur)) (ho : NwT.Off w bt gl VV gs W0 p.1) (hl : l 17 = false) (h14 : l 14 = true) :
  Nw16 w W0 (W.setCell ⟨bt, 2, none⟩ (.slice (some ⟨γ2, 0, none⟩) (done.length + 1) κ)) wd lf bt gl cl VV gs done ds p cur (upd l 17) γ γ2 κ := by
 obtain ⟨p1, p2, p3, p4⟩ := h.hP h14 hl
 have e14 : upd l 17 14 = l 14 := rfl
 have e17 : upd l 17 17 = true := rfl
 exact ⟨(fun hx => by rw [e14, h14] at hx; cases hx), (fun _ hx => by rw [e14, h14] at hx; cases hx), (fun _ hx => by rw [e17] at hx; cases hx), fun _ => h0.level hc ho p1 p2 p3 p4, h.o11, h.o12, h.o13, h.o14, fun _ => h14⟩
end
theorem own_base {w : World} {base base' n size : Nat} {xs : List Value} {e : TypeId} {v : Value} (h : w.ownsRow base e size v n xs) (hb : base' ≤ base) : w.ownsRow base' e size v n xs := by
 obtain ⟨hlen, h⟩ := h
 refine ⟨hlen, ?_⟩
 rcases h with h | ⟨g', cap', cur, hv, hbb, hr⟩
 ·
  exact .inl h
 ·
  exact .inr ⟨g', cap', cur, hv, Nat.le_trans hb hbb, hr⟩
def lenT (a : Act) : Nat := match a.tmps.getD 8 undef with
 | .slice _ n _ => n
 | _ => 0
structure NwH (w : World) (wd : Int) (ls : List SLeaf) (bt gl cl : Nat) (gs : List RowG) (done : List (List SNode)) (ds : List Nat) (cur : List SNode) (gc cc : Nat) (A9 : Option Addr) (c9 : Nat) (V : World) : Prop where
 t : NwT w wd ls bt gl cl (.slice A9 done.length c9) gs done ds V
 c : V.ownsRow (w.heap.size + 3) 46 3 (rowV (gc, cc) cur) cur.length (cellsN cur)
 o : NwT.Off w bt gl (.slice A9 done.length c9) gs V gc
 k : ∃ k K, cur.length = 2 ^ k ∧ ls.length = 2 ^ K ∧ done.length + k = K ∧ done ++ levelsV wd k cur = levelsV wd K (ls.map (leafNodeI wd))
 n : ∀ x ∈ cur, NodeK wd x
 s : totL cur = totL (ls.map (leafNodeI wd))
 m : done.length ≤ 11 ∧ cur.length ≤ 1024 ∧ ls.length ≤ 1024
 d : ∀ D ∈ ds, w.heap.size ≤ D
theorem exec_append {P : Program} {oi : Oper} {a : Act} {w w' : World} {v : Value} (s x : Operand) (t : TypeId) (ho : oi.op = .call { callee := .builtin .append, args := #[s, x], argTypes := #[t, t] }) (v1 v2 : Value) (hs : a.eval s = v1) (hx : a.eval x = v2) (hr : (Builtin.append_ #[t, t] oi.type #[v1, v2]).run P w = .ok v w') :
  (execOp a.eval oi).run P w = .ok (.value v) w' := by
 unfold execOp
 simp only [ho, resolve, invoke, builtin, Sem.run_bind, Sem.run_pure, Result.andThen_ok, List.map_toArray, List.map_cons, List.map_nil, hs, hx, hr]
structure TreeOwn (base : Nat) (W : World) (a : Nat) (T : STree) (gl cl : Nat) (VV : Value) (gs : List RowG) : Prop where
 ht : W.heap[a]? = some (.cells #[.int .i64 T.wd, .slice (some ⟨gl, 0, none⟩) T.leaves.length cl, VV] 105 (0, 0))
 hl : W.ownsRow base 36 5 (.slice (some ⟨gl, 0, none⟩) T.leaves.length cl) T.leaves.length (cellsL T.leaves)
 hv : W.ownsRow base 109 2 VV T.rows.length (cellsV 0 gs T.rows)
 hg : OwnRows W base gs T.rows
 ap : (a :: gl :: gs.map Prod.fst).Nodup
 av : ∀ k, VV.ownBlock = some k → k ∉ a :: gl :: gs.map Prod.fst
 lo : base ≤ a
def treeT (wd : Int) (l : List SLeaf) : STree := ⟨wd, l, levelsV wd l.length.log2 (l.map (leafNodeI wd))⟩
def NewPost (w : World) (wd : Int) (l : List SLeaf) (e : Ending) (w' : World) : Prop :=
 Below w.heap.size w w' ∧ ((newI wd l = 0 ∧ ∃ a gl cl VV gs, e = .returned (.tuple #[ptrT a, .int .i64 0]) ∧ TreeOwn w.heap.size w' a (treeT wd l) gl cl VV gs) ∨ (newI wd l ≠ 0 ∧ e = .returned (.tuple #[.pointer none, .int .i64 (newI wd l)])))
theorem newErr {w W : World} {wd : Int} {l : List SLeaf} {tmps : Array Value} {e : Int} (h : NwB w wd W) (h4 : tmps.getD 4 undef = .pointer (some ⟨w.heap.size + 1, 0, none⟩)) (h5 : tmps.getD 5 undef = .pointer (some ⟨w.heap.size + 1 + 1, 0, none⟩)) (he : newI wd l = e) (hn : e ≠ 0) :
  Exit.noGoto (bodyPostM Fence.wide 3 Tryd.prog Tryd.f14 (NewPost w wd l)) Exit.ret { tmps := tmps, defers := [] } ((W.setCell ⟨w.heap.size + 1, 0, none⟩ (.pointer none)).setCell ⟨w.heap.size + 1 + 1, 0, none⟩ (.int .i64 e)) := by
 obtain ⟨p4, p5, pb⟩ := h.put (.pointer none) (.int .i64 e)
 exact ret0 _ (new_results _ _ _ _ _ _ h4 h5 p4 p5) ⟨pb, .inr ⟨by rw [he]; exact hn, by rw [he]⟩⟩
theorem ButD.below {w W W' : World} {ds : List Nat} (h : ButD ds W W') (hB : Below w.heap.size w W) (hd : ∀ D ∈ ds, w.heap.size ≤ D) : Below w.heap.size w W' :=
 ⟨h.os.trans hB.os, h.tape.trans hB.tape, h.output.trans hB.output, by rw [h.size]; exact hB.size, fun i hi => (h.heap i (fun e => by have := hd i e; omega)).trans (hB.block i hi)⟩
theorem OwnRows.cellsAt {W : World} {base : Nat} : ∀ {gs : List RowG} {rs : List (List SNode)}, OwnRows W base gs rs → ∀ k ∈ gs.map Prod.fst, ∃ c, W.heap[k]? = some (.cells c 46 (0, 0))
 | [], [], _, k, hk => by cases hk
 | p :: gs, r :: rs, h, k, hk => by
  rw [List.map_cons] at hk
  rcases List.mem_cons.1 hk with rfl | hk
  ·
   exact own_cells h.1 rfl
  ·
   exact h.2.cellsAt k hk
theorem OwnRows.base {W : World} {base base' : Nat} (hb : base' ≤ base) : ∀ {gs : List RowG} {rs : List (List SNode)}, OwnRows W base gs rs → OwnRows W base' gs rs
 | [], [], _ => trivial
 | _ :: _, _ :: _, h => ⟨own_base h.1 hb, h.2.base hb⟩
theorem newDone {w W : World} {wd : Int} {ls : List SLeaf} {bt gl cl : Nat} {VV : Value} {gs : List RowG} {done : List (List SNode)} {ds : List Nat} {tmps : Array Value} (h : NwT w wd ls bt gl cl VV gs done ds W) (hds : ∀ D ∈ ds, w.heap.size ≤ D)
  (h4 : tmps.getD 4 undef = .pointer (some ⟨w.heap.size + 1, 0, none⟩)) (h5 : tmps.getD 5 undef = .pointer (some ⟨w.heap.size + 1 + 1, 0, none⟩)) (hI : newI wd ls = 0) (hr : done = levelsV wd ls.length.log2 (ls.map (leafNodeI wd))) :
  Exit.noGoto (bodyPostM Fence.wide 3 Tryd.prog Tryd.f14 (NewPost w wd ls)) Exit.ret { tmps := tmps, defers := ds.map markD } ((W.setCell ⟨w.heap.size + 1, 0, none⟩ (ptrT bt)).setCell ⟨w.heap.size + 1 + 1, 0, none⟩ (.int .i64 0)) := by
 obtain ⟨p4, p5, pb⟩ := h.bx.put (ptrT bt) (.int .i64 0)
 have hs := h.size
 have hset : ∀ k, w.heap.size + 3 ≤ k → ((W.setCell ⟨w.heap.size + 1, 0, none⟩ (ptrT bt)).setCell ⟨w.heap.size + 1 + 1, 0, none⟩ (.int .i64 0)).heap[k]? = W.heap[k]? := fun k hk =>
  (Below.heap_setCell _ _ _ _ (by show k ≠ w.heap.size + 1 + 1; omega)).trans (Below.heap_setCell _ _ _ _ (by show k ≠ w.heap.size + 1; omega))
 have hdd : ∀ D ∈ ds, ∃ o, ((W.setCell ⟨w.heap.size + 1, 0, none⟩ (ptrT bt)).setCell ⟨w.heap.size + 1 + 1, 0, none⟩ (.int .i64 0)).heap[D]? = some (.deferred o) ∧ o = some [] := fun D hD => by
  have h1 := h.hd D hD
  have n1 : D ≠ w.heap.size + 1 := fun e => by rw [e, h.bx.h4] at h1; cases h1
  have n2 : D ≠ w.heap.size + 1 + 1 := fun e => by rw [e, h.bx.h5] at h1; cases h1
  exact ⟨_, (Below.heap_setCell _ _ _ _ n2).trans ((Below.heap_setCell _ _ _ _ n1).trans h1), rfl⟩
 refine retD (v := .tuple #[ptrT bt, .int .i64 0]) h.dn (fun D hD => by obtain ⟨o, h1, rfl⟩ := hdd D hD; exact h1) (fun W' hW' => ?_)
 have hno : ∀ (k : Nat) (c : Array Value) (t : TypeId) (f : Nat × Nat), ((W.setCell ⟨w.heap.size + 1, 0, none⟩ (ptrT bt)).setCell ⟨w.heap.size + 1 + 1, 0, none⟩ (.int .i64 0)).heap[k]? = some (Obj.cells c t f) → W'.heap[k]? = some (Obj.cells c t f) := fun k c t f hk => by
  rw [hW'.heap k (fun hD => ?_)]
  ·
   exact hk
  ·
   obtain ⟨o, h1, -⟩ := hdd k hD
   rw [hk] at h1
   cases h1
 have hsame : ∀ k, w.heap.size + 3 ≤ k → (∃ (c : Array Value) (t : TypeId) (f : Nat × Nat), W.heap[k]? = some (Obj.cells c t f)) → W'.heap[k]? = W.heap[k]? := fun k hk ⟨c, t, f, hc⟩ => by
  rw [hno k c t f ((hset k hk).trans hc), hc]
 refine ⟨new_results _ _ _ _ _ _ h4 h5 (hno _ _ _ _ p4) (hno _ _ _ _ p5), hW'.below pb hds, .inl ⟨hI, bt, gl, cl, VV, gs, rfl, ?_⟩⟩
 have hT : (treeT wd ls).rows = done := hr.symm
 have hgl := h.hl.lt gl rfl
 refine ⟨(hsame bt h.lo ⟨_, _, _, h.ht⟩).trans h.ht, own_base (own_keep h.hl (hsame gl hgl.1 (by obtain ⟨c, hc⟩ := own_cells h.hl rfl; exact ⟨_, _, _, hc⟩))) (Nat.le_add_right _ 3), ?_, ?_, h.ap, h.av, by have := h.lo; omega⟩
 ·
  rw [hT]
  refine own_base (ownAny_keep h.hv (fun g hg => hsame g (h.hv.lt g hg).1 ?_)) (Nat.le_add_right _ 3)
  obtain ⟨c, hc⟩ := own_cells h.hv hg
  exact ⟨_, _, _, hc⟩
 ·
  rw [hT]
  refine (h.hg.keep (fun k hk => hsame k (h.hg.lt k hk).1 ?_)).base (Nat.le_add_right _ 3)
  obtain ⟨c, hc⟩ := h.hg.cellsAt k hk
  exact ⟨_, _, _, hc⟩
theorem newErrD {w W : World} {wd : Int} {ls : List SLeaf} {ds : List Nat} {tmps : Array Value} {e : Int} (hB : Below w.heap.size w W) (hn : ds.Nodup) (hd : ∀ D ∈ ds, W.heap[D]? = some (.deferred (some []))) (hds : ∀ D ∈ ds, w.heap.size ≤ D)
  (h4 : tmps.getD 4 undef = .pointer (some ⟨w.heap.size + 1, 0, none⟩)) (h5 : tmps.getD 5 undef = .pointer (some ⟨w.heap.size + 1 + 1, 0, none⟩)) (p4 : W.heap[w.heap.size + 1]? = some (.cells #[.pointer none] 25 (0, 0))) (p5 : W.heap[w.heap.size + 1 + 1]? = some (.cells #[.int .i64 e] 26 (0, 0)))
  (hI : newI wd ls = e) (h0 : e ≠ 0) : Exit.noGoto (bodyPostM Fence.wide 3 Tryd.prog Tryd.f14 (NewPost w wd ls)) Exit.ret { tmps := tmps, defers := ds.map markD } W := by
 refine retD (v := .tuple #[.pointer none, .int .i64 e]) hn hd (fun W' hW' => ?_)
 have hno : ∀ (k : Nat) (c : Array Value) (t : TypeId) (f : Nat × Nat), W.heap[k]? = some (Obj.cells c t f) → W'.heap[k]? = some (Obj.cells c t f) := fun k c t f hk => by
  rw [hW'.heap k (fun hD => ?_)]
  ·
   exact hk
  ·
   have := hd k hD
   rw [hk] at this
   cases this
 exact ⟨new_results _ _ _ _ _ _ h4 h5 (hno _ _ _ _ p4) (hno _ _ _ _ p5), hW'.below hB hds, .inr ⟨by rw [hI]; exact h0, by rw [hI]⟩⟩
theorem NwH.one {w : World} {wd : Int} {ls : List SLeaf} {bt gl cl : Nat} {gs : List RowG} {done : List (List SNode)} {ds : List Nat} {cur : List SNode} {gc cc : Nat} {A9 : Option Addr} {c9 : Nat} {V : World} (h : NwH w wd ls bt gl cl gs done ds cur gc cc A9 c9 V) (h1 : cur.length = 1) :
  totL (ls.map (leafNodeI wd)) < 340282366920938463463374607431768211456 ∧ done ++ [cur] = levelsV wd ls.length.log2 (ls.map (leafNodeI wd)) := by
 obtain ⟨k, K, e1, e2, e3, e4⟩ := h.k
 have hk : k = 0 := by
  rcases Nat.eq_zero_or_pos k with h | h
  ·
   exact h
  ·
   have := Nat.pow_lt_pow_right (a := 2) (by decide) h; omega
 subst hk
 refine ⟨?_, ?_⟩
 ·
  rw [← h.s]
  match cur, h1, h.n with
  | [x], _, hn => have := valU_lt (hn x (by simp)).u; simp [totL]; exact this
 ·
  rw [e2, Nat.log2_two_pow, ← e4]; rfl
theorem newI_ok {wd : Int} {ls : List SLeaf} (hw : ¬ (wd < 1 ∨ 32 < wd)) (hp : isPow ls.length = true) (ha : ls.all mayLeafI = true) (ht : totL (ls.map (leafNodeI wd)) < 340282366920938463463374607431768211456) : newI wd ls = 0 := by
 unfold newI; rw [if_neg hw, if_neg (by rw [hp]; decide), if_neg (by rw [ha]; decide), if_pos ht]
theorem newI_full {wd : Int} {ls : List SLeaf} (hw : ¬ (wd < 1 ∨ 32 < wd)) (hp : isPow ls.length = true) (ha : ls.all mayLeafI = true) (ht : ¬ totL (ls.map (leafNodeI wd)) < 340282366920938463463374607431768211456) : newI wd ls = 10 := by
 unfold newI; rw [if_neg hw, if_neg (by rw [hp]; decide), if_neg (by rw [ha]; decide), if_neg ht]
end Go.Proofs.YtfcodmdckcihmaaDoor.P
namespace Go.Proofs.YtfcodmdckcihmaaDoor.P
open Go.RowKit Go.Proofs.YtfcodmdckcihmaaDoorW.PrintWords Go.Proofs.YtfcodmdckcihmaaDoorW.PrintLast Go.Proofs.YtfcodmdckcihmaaDoorW.PrintMore
set_option linter.unusedVariables false
set_option linter.unusedSimpArgs false
set_option linter.unnecessarySimpa false
structure NwBd (w : World) (bt gl : Nat) (VV : Value) (gs : List RowG) (ds : List Nat) (H : Nat) : Prop where
 l : ∀ k ∈ bt :: gl :: gs.map Prod.fst, k < H
 v : ∀ k, VV.ownBlock = some k → k < H
 b : w.heap.size + 3 ≤ H
 d : ∀ D ∈ ds, D < H
section
variable {w : World} {wd : Int} {ls : List SLeaf} {bt gl cl : Nat} {VV : Value} {gs : List RowG} {done : List (List SNode)} {ds : List Nat}
theorem NwT.bd {W : World} (h : NwT w wd ls bt gl cl VV gs done ds W) : NwBd w bt gl VV gs ds W.heap.size :=
 ⟨fun k hk => (h.size k hk).2, fun k hk => (h.hv.lt k hk).2, by have := h.bx.lt; omega, fun D hD => blk_lt (h.hd D hD)⟩
theorem NwT.upto {W W' : World} {H : Nat} (h : NwT w wd ls bt gl cl VV gs done ds W) (hb : NwBd w bt gl VV gs ds H) (hk : ∀ k, k < H → W'.heap[k]? = W.heap[k]?) (hB : Below w.heap.size w W') : NwT w wd ls bt gl cl VV gs done ds W' := by
 have hin : ∀ k ∈ bt :: gl :: gs.map Prod.fst, W'.heap[k]? = W.heap[k]? := fun k hm => hk k (hb.l k hm)
 refine ⟨h.bx.keep (fun k hlt2 => hk k (by have := hb.b; omega)) hB, (hin bt (by simp)).trans h.ht, own_keep h.hl (hin gl (by simp)), ownAny_keep h.hv (fun g hg => hk g (hb.v g hg)), h.hg.keep (fun k hm => hin k (by simp at hm ⊢; exact .inr (.inr hm))), h.ap, h.av, h.lo, h.dn, fun D hD => (hk D (hb.d D hD)).trans (h.hd D hD)⟩
structure NxS (w : World) (wd : Int) (ls : List SLeaf) (bt gl cl : Nat) (VV : Value) (gs : List RowG) (done : List (List SNode)) (ds : List Nat) (b12 H : Nat) (nx : List SNode) (V : World) : Prop where
 hH : b12 < H
 t : NwT w wd ls bt gl cl VV gs done ds V
 bd : NwBd w bt gl VV gs ds b12
 b : ∃ A c, V.heap[b12]? = some (.cells #[.slice A nx.length c] 43 (0, 0)) ∧ V.ownsRow H 46 3 (.slice A nx.length c) nx.length (cellsN nx)
theorem NxS.lt {b12 H : Nat} {nx : List SNode} {V : World} (h : NxS w wd ls bt gl cl VV gs done ds b12 H nx V) : b12 < V.heap.size := by
 obtain ⟨A, c, h1, -⟩ := h.b
 exact blk_lt h1
theorem NxS.below {b12 H : Nat} {nx : List SNode} {V V' : World} (h : NxS w wd ls bt gl cl VV gs done ds b12 H nx V) (hb : Below V.heap.size V V') : NxS w wd ls bt gl cl VV gs done ds b12 H nx V' := by
 obtain ⟨A, c, h1, h2⟩ := h.b
 exact ⟨h.hH, h.t.below hb, h.bd, A, c, blk_below h1 hb, ownB h2 hb⟩
theorem NxS.grown {b12 H : Nat} {nx : List SNode} {X Y : World} {row : Option Nat} (h : NxS w wd ls bt gl cl VV gs done ds b12 H nx X) (hg : X.grownBy Y row) (hr : ∀ r, row = some r → H ≤ r ∧ ∃ o, X.heap[r]? = some o ∧ o.isCells = false) : NxS w wd ls bt gl cl VV gs done ds b12 H nx Y := by
 obtain ⟨A, c, h1, h2⟩ := h.b
 have hlt := h.lt
 have hH := h.hH
 have hk : ∀ k, k < b12 + 1 → Y.heap[k]? = X.heap[k]? := fun k hk => hg.block k (by omega) (fun e => by have := (hr k e.symm).1; omega)
 refine ⟨h.hH, h.t.upto h.bd (fun k hk2 => hk k (by omega)) (below_grown h.t.bx.hB hg (fun r e => by have := (hr r e).1; have := h.bd.b; omega)), h.bd, A, c, (hk b12 (by omega)).trans h1, ownAny_keep h2 (fun g hg2 => hg.block g (h2.lt g hg2).2 (fun e => ?_))⟩
 obtain ⟨o, ho, hc⟩ := (hr g e.symm).2
 obtain ⟨cs, h3⟩ := own_cells h2 hg2
 rw [h3] at ho
 cases ho
 cases hc
theorem NxS.more {b12 H : Nat} {nx : List SNode} {V W' : World} {x : SNode} {A : Option Addr} {c : Nat} {A' : Option Addr} {c' : Nat} (h : NxS w wd ls bt gl cl VV gs done ds b12 H nx V) (h1 : V.heap[b12]? = some (.cells #[.slice A nx.length c] 43 (0, 0))) (h2 : V.ownsRow H 46 3 (.slice A nx.length c) nx.length (cellsN nx))
  (hgr : V.grownBy W' (Value.slice A nx.length c).ownBlock) (hown : W'.ownsRow H 46 3 (.slice A' (nx.length + 1) c') (nx.length + 1) (cellsN nx ++ [.string x.f0, .int .u64 x.f1.f0, .int .u64 x.f1.f1])) :
  NxS w wd ls bt gl cl VV gs done ds b12 H (nx ++ [x]) (W'.setCell ⟨b12, 0, none⟩ (.slice A' (nx.length + 1) c')) := by
 have hlt := h.lt
 have hH := h.hH
 have hk : ∀ k, k < b12 + 1 → W'.heap[k]? = V.heap[k]? := fun k hk => hgr.block k (by omega) (fun e => by have := (h2.lt k e.symm).1; omega)
 have hl : (nx ++ [x]).length = nx.length + 1 := by simp
 refine ⟨h.hH, h.t.upto h.bd (fun k hk2 => (Below.heap_setCell _ _ _ _ (by show k ≠ b12; omega)).trans (hk k (by omega))) ((below_grown h.t.bx.hB hgr (fun r e => by have := (h2.lt r e).1; have := h.bd.b; omega)).setCell (by have := h.bd.b; show w.heap.size ≤ b12; omega) _), h.bd, A', c', ?_, ?_⟩
 ·
  rw [hl]
  exact blk_put ((hk b12 (by omega)).trans h1) 0 _ rfl
 ·
  rw [hl, cellsN_append]
  exact ownAny_keep hown (fun g hg => Below.heap_setCell _ _ _ _ (by have := (hown.lt g hg).1; show g ≠ b12; omega))
end
theorem OwnRows.last {W : World} {base : Nat} {p : RowG} {r : List SNode} : ∀ {gs : List RowG} {rs : List (List SNode)}, gs.length = rs.length → OwnRows W base (gs ++ [p]) (rs ++ [r]) → W.ownsRow base 46 3 (rowV p r) r.length (cellsN r)
 | [], [], _, h => h.1
 | _ :: _, _ :: _, hl, h => OwnRows.last (by simpa using hl) h.2
structure NxE (w : World) (ds : List Nat) (V : World) : Prop where
 hB : Below w.heap.size w V
 h4 : V.heap[w.heap.size + 1]? = some (.cells #[.pointer none] 25 (0, 0))
 h5 : V.heap[w.heap.size + 1 + 1]? = some (.cells #[.int .i64 10] 26 (0, 0))
 hd : ∀ D ∈ ds, V.heap[D]? = some (.deferred (some []))
theorem NxE.grown {w : World} {ds : List Nat} {X Y : World} {H : Nat} {row : Option Nat} (h : NxE w ds X) (hg : X.grownBy Y row) (hr : ∀ r, row = some r → H ≤ r) (hH : w.heap.size + 3 ≤ H) (hd : ∀ D ∈ ds, D < H) : NxE w ds Y := by
 have h5 := blk_lt h.h5
 exact ⟨below_grown h.hB hg (fun r e => by have := hr r e; omega), (hg.block _ (by omega) (fun e => by have := hr _ e.symm; omega)).trans h.h4, (hg.block _ h5 (fun e => by have := hr _ e.symm; omega)).trans h.h5, fun D hD => (hg.block D (blk_lt (h.hd D hD)) (fun e => by have := hr _ e.symm; have := hd D hD; omega)).trans (h.hd D hD)⟩
theorem NxE.made {w : World} {wd : Int} {ls : List SLeaf} {bt gl cl : Nat} {VV : Value} {gs : List RowG} {done : List (List SNode)} {ds : List Nat} {W : World} (h : NwT w wd ls bt gl cl VV gs done ds W) : NxE w ds ((W.setCell ⟨w.heap.size + 1, 0, none⟩ (.pointer none)).setCell ⟨w.heap.size + 1 + 1, 0, none⟩ (.int .i64 10)) := by
 obtain ⟨p4, p5, pb⟩ := h.bx.put (.pointer none) (.int .i64 10)
 refine ⟨pb, p4, p5, fun D hD => ?_⟩
 have h1 := h.hd D hD
 have n1 : D ≠ w.heap.size + 1 := fun e => by rw [e, h.bx.h4] at h1; cases h1
 have n2 : D ≠ w.heap.size + 1 + 1 := fun e => by rw [e, h.bx.h5] at h1; cases h1
 exact (Below.heap_setCell _ _ _ _ n2).trans ((Below.heap_setCell _ _ _ _ n1).trans h1)
theorem NwH.next {w : World} {wd : Int} {ls : List SLeaf} {bt gl cl : Nat} {gs : List RowG} {done : List (List SNode)} {ds : List Nat} {cur : List SNode} {gc cc : Nat} {A9 : Option Addr} {c9 : Nat} {V V' : World} {γ2 κ2 m g c D b12 H : Nat}
  (h : NwH w wd ls bt gl cl gs done ds cur gc cc A9 c9 V) (hm : cur.length = 2 * m) (hm1 : 1 ≤ m) (hok : pairsOk cur = true) (hx : NxS w wd ls bt gl cl (.slice (some ⟨γ2, 0, none⟩) (done.length + 1) κ2) (gs ++ [(gc, cc)]) (done ++ [cur]) ds b12 H (pairsV wd cur) V')
  (hc : V'.ownsRow H 46 3 (.slice (some ⟨g, 0, none⟩) m c) m (cellsN (pairsV wd cur))) (hD : b12 ≤ D) (hdf : V'.heap[D]? = some (.deferred (some []))) :
  NwH w wd ls bt gl cl (gs ++ [(gc, cc)]) (done ++ [cur]) (D :: ds) (pairsV wd cur) g c (some ⟨γ2, 0, none⟩) κ2 V' := by
 have hl : (done ++ [cur]).length = done.length + 1 := by simp
 have hpl : (pairsV wd cur).length = m := pairsV_len wd m cur hm
 have hgl := hc.lt g rfl
 have hH := hx.hH
 obtain ⟨cs, hcs⟩ := own_cells hc rfl
 obtain ⟨k, K, e1, e2, e3, e4⟩ := h.k
 obtain ⟨k, rfl⟩ : ∃ j, k = j + 1 := by
  cases k with
  | zero => rw [e1] at hm; omega
  | succ k => exact ⟨k, rfl⟩
 have hK : K ≤ 10 := by
  rcases Nat.lt_or_ge 10 K with h1 | h1
  ·
   have h2 := Nat.pow_le_pow_right (n := 2) (by decide) (show 11 ≤ K by omega)
   have h3 : ls.length ≤ 1024 := h.m.2.2
   omega
  ·
   exact h1
 have hH2 := hx.hH
 rw [← hl] at hx
 refine ⟨⟨hx.t.bx, hx.t.ht, hx.t.hl, hx.t.hv, hx.t.hg, hx.t.ap, hx.t.av, hx.t.lo, List.nodup_cons.2 ⟨fun hm2 => by have := hx.bd.d D hm2; omega, hx.t.dn⟩, fun D' hD' => ?_⟩, ?_, ⟨by have := hx.bd.b; omega, fun hm2 => by have := hx.bd.l g hm2; omega, fun e => by have := hx.bd.v g e; omega, cs, _, _, hcs⟩, ⟨k, K, ?_, e2, by rw [hl]; omega, ?_⟩, pairsV_k m cur hm h.n hok, (pairsV_tot wd m cur hm).trans h.s, ⟨?_, by rw [hpl]; have := h.m.2.1; omega, h.m.2.2⟩, fun D' hD' => ?_⟩
 ·
  rcases List.mem_cons.1 hD' with rfl | hD'
  ·
   exact hdf
  ·
   exact hx.t.hd D' hD'
 ·
  have h0 := own_base hc (show w.heap.size + 3 ≤ H by have := hx.bd.b; omega)
  rw [rowV, hpl]
  exact h0
 ·
  rw [hpl]
  rw [e1, Nat.pow_succ] at hm
  omega
 ·
  rw [← e4, List.append_assoc]; rfl
 ·
  rw [hl]; omega
 ·
  rcases List.mem_cons.1 hD' with rfl | hD'
  ·
   have := hx.bd.b; omega
  ·
   exact h.d D' hD'
end Go.Proofs.YtfcodmdckcihmaaDoor.P
namespace Go.Proofs.YtfcodmdckcihmaaDoor.P
open Go.RowKit Go.Proofs.YtfcodmdckcihmaaDoorW.PrintWords Go.Proofs.YtfcodmdckcihmaaDoorW.PrintLast Go.Proofs.YtfcodmdckcihmaaDoorW.PrintMore
set_option linter.unusedVariables false
set_option linter.unusedSimpArgs false
set_option linter.unnecessarySimpa false
theorem totL_take_le {w : Int} {l : List SNode} (h : ∀ x ∈ l, NodeK w x) (a n : Nat) : totL ((l.drop a).take n) ≤ totL l := by
 have h1 := totL_append ((l.drop a).take n) ((l.drop a).drop n)
 rw [List.take_append_drop] at h1
 have h2 := totL_append (l.take a) (l.drop a)
 rw [List.take_append_drop] at h2
 have h3 := totL_nn (w := w) (l := (l.drop a).drop n) fun x hx => h x (List.mem_of_mem_drop (List.mem_of_mem_drop hx))
 have h4 := totL_nn (w := w) (l := l.take a) fun x hx => h x (List.mem_of_mem_take hx)
 omega
end Go.Proofs.YtfcodmdckcihmaaDoor.P
namespace Go.Proofs.YtfcodmdckcihmaaDoor.P
open Go.RowKit Go.Proofs.YtfcodmdckcihmaaDoorW.PrintWords Go.Proofs.YtfcodmdckcihmaaDoorW.PrintLast Go.Proofs.YtfcodmdckcihmaaDoorW.PrintMore
set_option linter.unusedVariables false
set_option linter.unusedSimpArgs false
set_option linter.unnecessarySimpa false
structure FoS (w : World) (wd : Int) (W : World) : Prop where
 h2 : W.heap[w.heap.size]? = some (.cells #[.int .i64 wd] 3 (0, 0))
 h4 : W.heap[w.heap.size + 1]? = some (.cells #[.string ⟨#[]⟩, .int .u64 0, .int .u64 0] 46 (0, 0))
 hB : Below w.heap.size w W
theorem FoS.below {w W W' : World} {wd : Int} (h : FoS w wd W) (hb : Below W.heap.size W W') : FoS w wd W' := ⟨blk_below h.h2 hb, blk_below h.h4 hb, h.hB.trans (hb.mono h.hB.size)⟩
end Go.Proofs.YtfcodmdckcihmaaDoor.P
namespace Go.Proofs.YtfcodmdckcihmaaDoor.P
open Go.RowKit Go.Proofs.YtfcodmdckcihmaaDoorW.PrintWords Go.Proofs.YtfcodmdckcihmaaDoorW.PrintLast Go.Proofs.YtfcodmdckcihmaaDoorW.PrintMore
set_option linter.unusedVariables false
set_option linter.unusedSimpArgs false
set_option linter.unnecessarySimpa false
structure RFo (w W : World) : Prop where
 h4 : W.heap[w.heap.size]? = some (.cells #[.string ⟨#[]⟩, .int .u64 0, .int .u64 0] 46 (0, 0))
 hB : Below w.heap.size w W
theorem RFo.below {w W W' : World} (h : RFo w W) (hb : Below W.heap.size W W') : RFo w W' := ⟨blk_below h.h4 hb, h.hB.trans (hb.mono h.hB.size)⟩
end Go.Proofs.YtfcodmdckcihmaaDoor.P
namespace Go.Proofs.YtfcodmdckcihmaaDoor.P
open Go.RowKit Go.Proofs.YtfcodmdckcihmaaDoorW.PrintWords Go.Proofs.YtfcodmdckcihmaaDoorW.PrintLast Go.Proofs.YtfcodmdckcihmaaDoorW.PrintMore
set_option linter.unusedVariables false
set_option linter.unusedSimpArgs false
set_option linter.unnecessarySimpa false
def RefT (a : Nat) (wd : Int) (l : List SLeaf) (W : World) : Prop := ∃ LA cap, W.heap[a]? = some (.cells #[.int .i64 wd, .slice LA l.length cap] 118 (0, 0)) ∧ l.length ≤ cap ∧ Kd.C kLeaf W LA l.length l
theorem RefT.below {a : Nat} {wd : Int} {l : List SLeaf} {W W' : World} (h : RefT a wd l W) (hb : Below W.heap.size W W') : RefT a wd l W' := by
 obtain ⟨LA, cap, h1, h2, h3⟩ := h
 exact ⟨LA, cap, blk_below h1 hb, h2, Kd.C_below h3 hb⟩
def RefO (base a : Nat) (wd : Int) (l : List SLeaf) (W : World) : Prop := base ≤ a ∧ ∃ g cap, W.heap[a]? = some (.cells #[.int .i64 wd, .slice (some ⟨g, 0, none⟩) l.length cap] 118 (0, 0)) ∧ W.ownsRow base 36 5 (.slice (some ⟨g, 0, none⟩) l.length cap) l.length (cellsL l)
theorem RefO.read {base a : Nat} {wd : Int} {l : List SLeaf} {W : World} (h : RefO base a wd l W) : RefT a wd l W := by
 obtain ⟨_, g, cap, h1, h2⟩ := h
 exact ⟨some ⟨g, 0, none⟩, cap, h1, (ownLeaves_C h2).2.1, (ownLeaves_C h2).2.2⟩
theorem RefO.far {base a : Nat} {wd : Int} {l : List SLeaf} {W W' : World} (h : RefO base a wd l W) (hk : ∀ k, base ≤ k → k < W.heap.size → W'.heap[k]? = W.heap[k]?) : RefO base a wd l W' := by
 obtain ⟨h0, g, cap, h1, h2⟩ := h
 have hg := h2.lt g rfl
 exact ⟨h0, g, cap, (hk a h0 (blk_lt h1)).trans h1, own_keep h2 (hk g hg.1 hg.2)⟩
def RefPost (w : World) (wd : Int) (l : List SLeaf) (e : Ending) (w' : World) : Prop :=
 Below w.heap.size w w' ∧ ((newI wd l = 0 ∧ ∃ a, e = .returned (.tuple #[ptrT a, .int .i64 0]) ∧ RefO w.heap.size a wd l w') ∨ (newI wd l ≠ 0 ∧ e = .returned (.tuple #[.pointer none, .int .i64 (newI wd l)])))
theorem RefPost.err {w w' : World} {wd : Int} {l : List SLeaf} {e : Int} (h : newI wd l = e) (h0 : e ≠ 0) (hB : Below w.heap.size w w') : RefPost w wd l (.returned (.tuple #[.pointer none, .int .i64 e])) w' := ⟨hB, .inr ⟨by rw [h]; exact h0, by rw [h]⟩⟩
end Go.Proofs.YtfcodmdckcihmaaDoor.P
namespace Go.Proofs.YtfcodmdckcihmaaDoor.P
open Go.RowKit Go.Proofs.YtfcodmdckcihmaaDoorW.PrintWords Go.Proofs.YtfcodmdckcihmaaDoorW.PrintLast Go.Proofs.YtfcodmdckcihmaaDoorW.PrintMore
set_option linter.unusedVariables false
set_option linter.unusedSimpArgs false
set_option linter.unnecessarySimpa false
attribute [local go_sem] sel_true
structure NewOk (wd : Int) (l : List SLeaf) : Prop where
 w : 1 ≤ wd ∧ wd ≤ 32
 p : l.length = 2 ^ l.length.log2
 k : ∀ x ∈ l.map (leafNodeI wd), NodeK wd x
 t : totL (l.map (leafNodeI wd)) < 340282366920938463463374607431768211456
theorem newI_zero {wd : Int} {l : List SLeaf} (h : newI wd l = 0) (hl : ∀ x ∈ l, OkL x) : NewOk wd l := by
 unfold newI at h
 by_cases hw : wd < 1 ∨ 32 < wd
 ·
  rw [if_pos hw] at h; cases h
 rw [if_neg hw] at h
 cases hp : isPow l.length with
 | false => rw [hp, if_pos rfl] at h; cases h
 | true =>
  rw [hp, if_neg (by decide)] at h
  cases ha : l.all mayLeafI with
  | false => rw [ha, if_pos rfl] at h; cases h
  | true =>
   rw [ha, if_neg (by decide)] at h
   by_cases ht : totL (l.map (leafNodeI wd)) < 340282366920938463463374607431768211456
   ·
    refine ⟨by omega, ?_, ?_, ht⟩
    ·
     unfold isPow at hp
     exact (of_decide_eq_true hp).symm
    ·
     intro x hx
     obtain ⟨y, hy, rfl⟩ := List.mem_map.1 hx
     have h1 := List.all_eq_true.1 ha y hy
     refine ⟨?_, leafNodeI_ok wd y (hl y hy).ub⟩
     unfold leafNodeI
     rw [if_pos ⟨⟨by omega, by omega⟩, h1⟩]
     have e : ((dgI wd (leafTextI y)).size : Int) = wd := by rw [dgI_size _ _ (by omega) (by omega)]; omega
     simp only [nodeOf, e]
     simp
     omega
   ·
    rw [if_neg ht] at h; cases h
structure Rl3 (w W : World) (nodes : List SNode) (l : Nat → Bool) (A2 : Option Addr) (c2 : Nat) : Prop where
 hB : Below w.heap.size w W
 hg : l 8 = true → nodes.length ≤ c2 ∧ Kd.C kNode W A2 nodes.length nodes
 o9 : l 9 = true → l 8 = true
theorem Rl3.same {w W : World} {nodes : List SNode} {l : Nat → Bool} {A2 : Option Addr} {c2 : Nat} (h : Rl3 w W nodes l A2 c2) (i : Nat) (hi : i < 8) : Rl3 w W nodes (upd l i) A2 c2 := by
 have e8 : upd l i 8 = l 8 := upd_no (by omega)
 have e9 : upd l i 9 = l 9 := upd_no (by omega)
 exact ⟨h.hB, by rw [e8]; exact h.hg, by rw [e8, e9]; exact h.o9⟩
end Go.Proofs.YtfcodmdckcihmaaDoor.P
namespace Go.Proofs.YtfcodmdckcihmaaDoor.P
open Go.RowKit Go.Proofs.YtfcodmdckcihmaaDoorW.PrintWords Go.Proofs.YtfcodmdckcihmaaDoorW.PrintLast Go.Proofs.YtfcodmdckcihmaaDoorW.PrintMore
set_option linter.unusedVariables false
set_option linter.unusedSimpArgs false
set_option linter.unnecessarySimpa false
attribute [local go_sem] sel_true
structure RrS (w W2 W : World) (x : SNode) (m : Int) (l : Nat → Bool) : Prop where
 hC : l 10 = false → Below W2.heap.size W2 W
 hz : W.heap[w.heap.size]? = some (.cells (if l 10 = true then #[.string x.f0, .int .u64 x.f1.f0, .int .u64 x.f1.f1, .int .i64 m] else #[.string ⟨#[]⟩, .int .u64 0, .int .u64 0, .int .i64 0]) 41 (0, 0))
 hD : Below w.heap.size w W
 ho : l 10 = true → ∀ i, i < 10 → l i = true
theorem RrS.no {w W2 W : World} {x : SNode} {m : Int} {l : Nat → Bool} (h : RrS w W2 W x m l) {i : Nat} (hi : i < 10) (hl : l i = false) : l 10 = false := by
 cases h7 : l 10 with
 | false => rfl
 | true => rw [h.ho h7 i hi] at hl; cases hl
theorem RrS.other {w W2 W : World} {x : SNode} {m : Int} {l : Nat → Bool} (h : RrS w W2 W x m l) (i : Nat) (hi : i < 10) (hl : l i = false) : RrS w W2 W x m (upd l i) := by
 have h7 := h.no hi hl
 have e : upd l i 10 = l 10 := upd_no (by omega)
 refine ⟨fun _ => h.hC h7, by rw [e]; exact h.hz, h.hD, fun h' => by rw [e, h7] at h'; cases h'⟩
theorem RrS.store {w W2 W : World} {x : SNode} {m : Int} {l : Nat → Bool} (h : RrS w W2 W x m l) (h7 : l 10 = false) (ha : ∀ i, i < 10 → l i = true) :
  RrS w W2 ((((W.setCell ⟨w.heap.size, 0, none⟩ (.string x.f0)).setCell ⟨w.heap.size, 1, none⟩ (.int .u64 x.f1.f0)).setCell ⟨w.heap.size, 2, none⟩ (.int .u64 x.f1.f1)).setCell ⟨w.heap.size, 3, none⟩ (.int .i64 m)) x m (upd l 10) := by
 have hz := h.hz
 rw [h7, if_neg (by decide)] at hz
 have e : upd l 10 10 = true := rfl
 refine ⟨(fun h' => by rw [e] at h'; cases h'), ?_, below_set (below_set (below_set (below_set h.hD (Nat.le_refl _)) (Nat.le_refl _)) (Nat.le_refl _)) (Nat.le_refl _), fun _ i hi => by rw [upd_no (by omega)]; exact ha i hi⟩
 rw [e, if_pos rfl]
 exact blk_put (cs' := #[.string x.f0, .int .u64 x.f1.f0, .int .u64 x.f1.f1, .int .i64 m]) (blk_put (cs' := #[.string x.f0, .int .u64 x.f1.f0, .int .u64 x.f1.f1, .int .i64 0]) (blk_put (cs' := #[.string x.f0, .int .u64 x.f1.f0, .int .u64 0, .int .i64 0]) (blk_put (cs' := #[.string x.f0, .int .u64 0, .int .u64 0, .int .i64 0]) hz 0 (.string x.f0) rfl) 1 (.int .u64 x.f1.f0) rfl) 2 (.int .u64 x.f1.f1) rfl) 3 (.int .i64 m) rfl
theorem levels_top (wd : Int) (ls : List SLeaf) : topI (treeT wd ls) = (upV wd ls.length.log2 (ls.map (leafNodeI wd))).headD nodeZ := by
 have h : (treeT wd ls).rows = levelsV wd ls.length.log2 (ls.map (leafNodeI wd)) := rfl
 unfold topI
 rw [h, levelsV_len, Nat.add_sub_cancel, List.getD_eq_getElem?_getD, levelsV_get wd _ _ _ (Nat.le_refl _)]
 rfl
theorem nodeAt_tree (wd : Int) (ls : List SLeaf) (n : Nat) (hn : n ≤ ls.length.log2) (p : Int) : nodeAtI (treeT wd ls) (n : Int) p = ((upV wd n (ls.map (leafNodeI wd))).getD p.toNat nodeZ, decide (p.toNat < (upV wd n (ls.map (leafNodeI wd))).length)) := by
 have h : (treeT wd ls).rows = levelsV wd ls.length.log2 (ls.map (leafNodeI wd)) := rfl
 have hg : (levelsV wd ls.length.log2 (ls.map (leafNodeI wd))).getD n [] = upV wd n (ls.map (leafNodeI wd)) := by rw [List.getD_eq_getElem?_getD, levelsV_get wd _ _ _ hn]; rfl
 unfold nodeAtI
 rw [h, levelsV_len, if_pos ⟨by omega, by omega⟩, Int.toNat_natCast, hg]
end Go.Proofs.YtfcodmdckcihmaaDoor.P
namespace Go.Proofs.YtfcodmdckcihmaaDoor.P
open Go.RowKit Go.Proofs.YtfcodmdckcihmaaDoorW.PrintWords Go.Proofs.YtfcodmdckcihmaaDoorW.PrintLast Go.Proofs.YtfcodmdckcihmaaDoorW.PrintMore
set_option linter.unusedVariables false
set_option linter.unusedSimpArgs false
set_option linter.unnecessarySimpa false
theorem pairsV_set (w : Int) (x : SNode) : ∀ (m : Nat) (l : List SNode) (q : Nat), l.length = 2 * m → q < 2 * m → pairsV w (l.set q x) = (pairsV w l).set (q / 2) (if q % 2 = 1 then joinV w (l.getD (q - 1) zeroN) x else joinV w x (l.getD (q + 1) zeroN))
 | m + 1, a :: b :: l, 0, h, _ => rfl
 | m + 1, a :: b :: l, 1, h, _ => rfl
 | m + 1, a :: b :: l, q + 2, h, hq => by
  have ih := pairsV_set w x m l q (by simp at h; omega) (by omega)
  rw [List.set_cons_succ, List.set_cons_succ, pairsV, pairsV, ih, show (q + 2) / 2 = q / 2 + 1 by omega, show (q + 2) % 2 = q % 2 by omega, List.set_cons_succ]
  refine congrArg (fun z => joinV w a b :: (pairsV w l).set (q / 2) z) ?_
  by_cases h1 : q % 2 = 1
  ·
   rw [if_pos h1, if_pos h1, show q + 2 - 1 = (q - 1) + 1 + 1 by omega, List.getD_cons_succ, List.getD_cons_succ]
  ·
   rw [if_neg h1, if_neg h1, show q + 2 + 1 = (q + 1) + 1 + 1 by omega, List.getD_cons_succ, List.getD_cons_succ]
def besV (w : Int) (l : List SNode) (p i : Nat) : SNode := (upV w i l).getD (if p / 2 ^ i % 2 = 1 then p / 2 ^ i - 1 else p / 2 ^ i + 1) zeroN
def wayV (w : Int) (l : List SNode) (p : Nat) (x : SNode) : Nat → SNode
 | 0 => x
 | i + 1 => if p / 2 ^ i % 2 = 1 then joinV w (besV w l p i) (wayV w l p x i) else joinV w (wayV w l p x i) (besV w l p i)
theorem upV_len2 {w : Int} {K : Nat} {l : List SNode} (h : l.length = 2 ^ K) (i : Nat) (hi : i ≤ K) : (upV w i l).length = 2 ^ (K - i) := upV_len w i (K - i) l (by rw [h]; congr 1; omega)
theorem div_lt {p K i : Nat} (hp : p < 2 ^ K) (hi : i ≤ K) : p / 2 ^ i < 2 ^ (K - i) := by
 rw [Nat.div_lt_iff_lt_mul (Nat.two_pow_pos i), ← Nat.pow_add, show K - i + i = K by omega]; exact hp
theorem upV_set (w : Int) {K : Nat} {l : List SNode} (hl : l.length = 2 ^ K) {p : Nat} (hp : p < 2 ^ K) (x : SNode) : ∀ i, i ≤ K → upV w i (l.set p x) = (upV w i l).set (p / 2 ^ i) (wayV w l p x i)
 | 0, _ => by rw [Nat.pow_zero, Nat.div_one]; rfl
 | i + 1, hi => by
  have ih := upV_set w hl hp x i (by omega)
  have h1 := upV_len2 (w := w) hl i (by omega)
  have h2 : 2 ^ (K - i) = 2 * 2 ^ (K - (i + 1)) := by rw [show K - i = (K - (i + 1)) + 1 by omega, Nat.pow_succ, Nat.mul_comm]
  have h3 := div_lt hp (show i ≤ K by omega)
  have e : (if p / 2 ^ i % 2 = 1 then joinV w ((upV w i l).getD (p / 2 ^ i - 1) zeroN) (wayV w l p x i) else joinV w (wayV w l p x i) ((upV w i l).getD (p / 2 ^ i + 1) zeroN)) = wayV w l p x (i + 1) := by
   show _ = if p / 2 ^ i % 2 = 1 then joinV w (besV w l p i) (wayV w l p x i) else joinV w (wayV w l p x i) (besV w l p i)
   unfold besV
   by_cases h : p / 2 ^ i % 2 = 1
   ·
    rw [if_pos h, if_pos h, if_pos h]
   ·
    rw [if_neg h, if_neg h, if_neg h]
  rw [upV_succ, upV_succ, ih, pairsV_set w _ (2 ^ (K - (i + 1))) _ _ (h1.trans h2) (by omega), Nat.div_div_eq_div_mul, ← Nat.pow_succ, e]
theorem totL_set : ∀ (l : List SNode) (q : Nat) (x : SNode), (h : q < l.length) → totL (l.set q x) = totL l - valU (l[q]).f1 + valU x.f1
 | a :: l, 0, x, _ => by rw [List.set_cons_zero, totL, totL, List.getElem_cons_zero]; omega
 | a :: l, q + 1, x, h => by
  rw [List.set_cons_succ, totL, totL, totL_set l q x (by simpa using h), List.getElem_cons_succ]; omega
theorem totL_ge {w : Int} : ∀ (l : List SNode) (q : Nat), (∀ x ∈ l, NodeK w x) → (h : q < l.length) → valU (l[q]).f1 ≤ totL l
 | a :: l, 0, hk, _ => by
  have := totL_nn (l := l) (fun x hx => hk x (List.mem_cons_of_mem _ hx))
  rw [totL, List.getElem_cons_zero]; omega
 | a :: l, q + 1, hk, h => by
  have h1 := totL_ge l q (fun x hx => hk x (List.mem_cons_of_mem _ hx)) (by simpa using h)
  have h2 := valU_nn (hk a (by simp)).u
  rw [totL, List.getElem_cons_succ]; omega
theorem upV_tot (w : Int) {K : Nat} {l : List SNode} (hl : l.length = 2 ^ K) : ∀ i, i ≤ K → totL (upV w i l) = totL l
 | 0, _ => rfl
 | i + 1, hi => by
  have h1 := upV_len2 (w := w) hl i (by omega)
  rw [upV_succ, pairsV_tot w (2 ^ (K - (i + 1))) _ (by rw [h1, show K - i = (K - (i + 1)) + 1 by omega, Nat.pow_succ, Nat.mul_comm]), upV_tot w hl i (by omega)]
theorem way_le (w : Int) {K : Nat} {l : List SNode} (hl : l.length = 2 ^ K) (hk : ∀ x ∈ l, NodeK w x) (ht : totL l < 340282366920938463463374607431768211456) {p : Nat} (hp : p < 2 ^ K) (x : SNode) (i : Nat) (hi : i ≤ K) : valU (wayV w l p x i).f1 ≤ totL (l.set p x) := by
 have h1 := upV_len2 (w := w) hl i hi
 have h2 := div_lt hp hi
 have h3 := upV_set w hl hp x i hi
 have h4 := upV_tot w (l := l.set p x) (by rw [List.length_set]; exact hl) i hi
 have h5 := (up_ok hl hk ht i hi).2.1
 rw [h3, totL_set _ _ _ (by omega)] at h4
 have h6 := totL_ge (upV w i l) (p / 2 ^ i) h5 (by omega)
 omega
theorem besV_k {w : Int} {K : Nat} {l : List SNode} (hl : l.length = 2 ^ K) (hk : ∀ x ∈ l, NodeK w x) (ht : totL l < 340282366920938463463374607431768211456) {p : Nat} (hp : p < 2 ^ K) (i : Nat) (hi : i < K) : NodeK w (besV w l p i) ∧ (if p / 2 ^ i % 2 = 1 then p / 2 ^ i - 1 else p / 2 ^ i + 1) < (upV w i l).length := by
 have h1 := upV_len2 (w := w) hl i (by omega)
 have h2 := div_lt hp (show i ≤ K by omega)
 have h3 : 2 ^ (K - i) = 2 * 2 ^ (K - (i + 1)) := by rw [show K - i = (K - (i + 1)) + 1 by omega, Nat.pow_succ, Nat.mul_comm]
 have h5 := (up_ok hl hk ht i (by omega)).2.1
 have h6 : (if p / 2 ^ i % 2 = 1 then p / 2 ^ i - 1 else p / 2 ^ i + 1) < (upV w i l).length := by
  rw [h1, h3]
  rw [h3] at h2
  generalize p / 2 ^ i = a at h2 ⊢
  generalize 2 ^ (K - (i + 1)) = b at h2 ⊢
  split <;> omega
 refine ⟨?_, h6⟩
 unfold besV
 rw [List.getD_eq_getElem?_getD, List.getElem?_eq_getElem h6]
 exact h5 _ (List.getElem_mem h6)
theorem levelsV_set (w : Int) {K : Nat} {l : List SNode} (hl : l.length = 2 ^ K) {p : Nat} (hp : p < 2 ^ K) (x : SNode) (i : Nat) (hi : i ≤ K) : (levelsV w K (l.set p x))[i]? = some ((upV w i l).set (p / 2 ^ i) (wayV w l p x i)) := by
 rw [levelsV_get w K i _ hi, upV_set w hl hp x i hi]
def setI (wd : Int) (l : List SLeaf) (p : Nat) (x : SLeaf) : Int :=
 if l.length ≤ p then 2 else if mayLeafI x = false then 130 else if totL ((l.set p x).map (leafNodeI wd)) < 340282366920938463463374607431768211456 then 0 else 10
def setL (wd : Int) (l : List SLeaf) (p : Nat) (x : SLeaf) : List SLeaf := if setI wd l p x = 0 then l.set p x else l
theorem setL_len (wd : Int) (l : List SLeaf) (p : Nat) (x : SLeaf) : (setL wd l p x).length = l.length := by
 unfold setL; split
 ·
  rw [List.length_set]
 ·
  rfl
theorem all_set {α : Type} (f : α → Bool) (x : α) : ∀ (l : List α) (p : Nat), p < l.length → l.all f = true → (l.set p x).all f = f x
 | a :: l, 0, _, h => by
  rw [List.all_cons, Bool.and_eq_true] at h
  rw [List.set_cons_zero, List.all_cons, h.2, Bool.and_true]
 | a :: l, p + 1, hp, h => by
  rw [List.all_cons, Bool.and_eq_true] at h
  rw [List.set_cons_succ, List.all_cons, h.1, Bool.true_and, all_set f x l p (by simpa using hp) h.2]
theorem newI_set {wd : Int} {l : List SLeaf} {p : Nat} {x : SLeaf} (h0 : newI wd l = 0) (hp : p < l.length) : newI wd (l.set p x) = setI wd l p x := by
 unfold newI at h0 ⊢
 unfold setI
 rw [if_neg (show ¬ l.length ≤ p by omega)]
 split at h0
 ·
  cases h0
 ·
  next hw =>
  split at h0
  ·
   cases h0
  ·
   next hq =>
   split at h0
   ·
    cases h0
   ·
    next ha =>
    rw [if_neg hw, List.length_set, if_neg hq, all_set mayLeafI x l p hp (by simpa using ha)]
theorem newI_setL {wd : Int} {l : List SLeaf} {p : Nat} {x : SLeaf} (h0 : newI wd l = 0) : newI wd (setL wd l p x) = 0 := by
 unfold setL
 split
 ·
  next h =>
  rcases Nat.lt_or_ge p l.length with hp | hp
  ·
   rw [newI_set h0 hp, h]
  ·
   unfold setI at h; rw [if_pos hp] at h; cases h
 ·
  exact h0
end Go.Proofs.YtfcodmdckcihmaaDoor.P
namespace Go.Proofs.YtfcodmdckcihmaaDoor.P
open Go.RowKit Go.Proofs.YtfcodmdckcihmaaDoorW.PrintWords Go.Proofs.YtfcodmdckcihmaaDoorW.PrintLast Go.Proofs.YtfcodmdckcihmaaDoorW.PrintMore
set_option linter.unusedVariables false
set_option linter.unusedSimpArgs false
set_option linter.unnecessarySimpa false
attribute [local go_sem] Oper.semAt_some sel_true
set_option maxRecDepth 100000 in
set_option maxHeartbeats 4000000 in
theorem treeNew.calls (wd : Int) (A : Option Addr) (c : Nat) (ls : List SLeaf) (w : World) (hK : LaidT w) (hr : Kd.C kLeaf w A ls.length ls) (hc : ls.length ≤ c) (hn : ls.length ≤ 1024) (hl : ∀ x ∈ ls, OkL x) :
  Calls Tryd.prog 14 #[.int .i64 wd, .slice A ls.length c] w (NewPost w wd ls) := by
 have HK := aM' hK
 have HR := aM' hr
 have HC := aM' hc
 have HN := aM' hn
 have HL := aM' hl
 clear hK hr hc hl hn
 obtain ⟨i0, hi, hz0, hz1, hz2⟩ := info_parts nodeInfo
 have hS0 := NwB.start w wd
 have HS0 := aM' hS0
 clear hS0
 refine (callsIn_wide (n := 3)).1 ?_
 refine callsIn_of_wp_marks Tryd.func14 rfl trivial ?_ rfl
 simp only [Tryd.ntmps14, List.size_toArray, List.length_cons, List.length_nil, Nat.reduceAdd, Nat.reduceSub, Array.replicate_succ, Array.replicate_zero, List.push_toArray, List.append_toArray, List.nil_append, List.cons_append]
 refine wpIn_wide.2 ?_
 go_wp2_with fail
 go_step3
 go_wp2_with fail
 obtain ⟨W0, hW0⟩ : ∃ V, V = ((w.alloc (.cells #[.int .i64 wd] 3)).alloc (.cells #[.pointer none] 25)).alloc (.cells #[.int .i64 0] 26) := ⟨_, rfl⟩
 rw [← hW0] at HS0 ⊢
 clear hW0
 have hsz0 := HS0.out.lt
 refine (height.calls ls.length _ HN.out).mono ?_
 rintro e w1 ⟨⟨h, rfl⟩, rfl⟩
 have x2 : W0.cell? ⟨w.heap.size, 0, none⟩ = some (.int .i64 wd) := blk_cell HS0.out.h2 0
 have x4 : W0.cell? ⟨w.heap.size + 1, 0, none⟩ = some (.pointer none) := blk_cell HS0.out.h4 0
 have x5 : W0.cell? ⟨w.heap.size + 1 + 1, 0, none⟩ = some (.int .i64 0) := blk_cell HS0.out.h5 0
 have f4 : ∀ i, W0.frozen? ⟨w.heap.size + 1, i, none⟩ = false := fun i => blk_frozen HS0.out.h4 i
 have f5 : ∀ i, W0.frozen? ⟨w.heap.size + 1 + 1, i, none⟩ = false := fun i => blk_frozen HS0.out.h5 i
 by_cases hw : wd < 1 ∨ 32 < wd
 ·
  have HI := aM' (show newI wd ls = 70 by unfold newI; rw [if_pos hw])
  by_cases h1 : wd < 1
  ·
   have b1 : decide (wd < 1) = true := decide_eq_true h1
   clear hw
   go_wp2
   exact newErr HS0.out rfl rfl HI.out (by decide)
  ·
   have b1 : decide (wd < 1) = false := decide_eq_false h1
   have b2 : decide (32 < wd) = true := decide_eq_true (by omega)
   clear hw
   go_wp2
   exact newErr HS0.out rfl rfl HI.out (by decide)
 ·
  have b1 : decide (wd < 1) = false := decide_eq_false (by omega)
  have b2 : decide (32 < wd) = false := decide_eq_false (by omega)
  have HW := aM' hw
  clear hw
  cases hp : isPow ls.length with
  | false =>
   have HI := aM' (show newI wd ls = 120 by unfold newI; rw [if_neg HW.out, if_pos hp])
   clear hp
   go_wp2
   exact newErr HS0.out rfl rfl HI.out (by decide)
  | true =>
   have HP := aM' hp
   clear hp
   have HSz := aM' hsz0
   clear hsz0
   go_wp2
   go_step3
   go_wp2
   clear x2 x4 x5 f4 f5 b1 b2
   go_loopw [8, 34] (fun v8 v34 wr => ∃ i : Nat, v34 = .int .i64 (i : Int) ∧ Aside0 (i ≤ ls.length ∧ (∀ x ∈ ls.take i, mayLeafI x = true)) ∧ Aside0 (NwB w wd wr) ∧ Aside0 (wr.ownsRow (w.heap.size + 3) 46 3 v8 i (cellsN ((ls.take i).map (leafNodeI wd))))) (fun _ v34 _ => ls.length - (intOf v34).toNat)
   case atStart => exact ⟨0, rfl, ⟨Nat.zero_le _, by simp⟩, HS0, ⟨World.ownsRow_nil _ _ _ _⟩⟩
   case round =>
    obtain ⟨i, rfl, HI, HS, HO⟩ := hrel
    obtain ⟨A8, c8, rfl⟩ : ∃ A8 c8, u8 = .slice A8 i c8 := by
     rcases HO.out.2 with ⟨h, h0⟩ | ⟨g, cap, cur, h, _⟩
     ·
      exact ⟨none, 0, by rw [h, h0]⟩
     ·
      exact ⟨_, _, h⟩
    by_cases hlt : i < ls.length
    ·
     have b1 : decide ((i : Int) < (ls.length : Int)) = true := decide_eq_true (by omega)
     have b2 : decide (i < ls.length) = true := decide_eq_true hlt
     obtain ⟨ad, e1, p0, p1, p2, p3, p4⟩ := at_TLeaf (Kd.C_below HR.out HS.out.hB) (i : Int) (by omega) (by omega)
     subst e1
     have e3 : rd_TLeaf ls (i : Int) = ls[i] := by rw [rd_TLeaf, Int.toNat_natCast]; simp [List.getD_eq_getElem?_getD, hlt]
     rw [e3, Int.toNat_natCast] at p0 p1 p2 p3 p4
     have htk : ls.take (i + 1) = ls.take i ++ [ls[i]] := by rw [List.take_succ_eq_append_getElem hlt]
     have hok := HL.out ls[i] (List.getElem_mem hlt)
     have hmem : ls[i] ∈ ls := List.getElem_mem hlt
     generalize ls[i] = x at p0 p1 p2 p3 p4 htk hok hmem
     have HMEM := aM' hmem
     have HM := aM' (tagMayLeaf_eq x hok.id)
     obtain ⟨kl, hkl⟩ := (tagLeafNode_ev wd x hok.id hok.sa).rounds
     have HLN := aM' hkl
     have HTK := aM' htk
     have HLT := aM' hlt
     clear hkl htk hok e3 hmem
     have hx2 := blk_cell (blk_alloc HS.out.h2 (.cells (acL x) 36)) 0
     go_wp2_with fail
     have HS1 := aM' (HS.out.below (below_alloc (Below.refl _ _) (.cells (acL x) 36)))
     have HX := aM' (blk_new wr (.cells (acL x) 36))
     have HO1 := aM' (ownB HO.out (below_alloc (Below.refl _ _) (.cells (acL x) 36)))
     clear p0 p1 p2 p3 p4 hx2
     refine (tag_MayLeaf.calls x.f0 x.f1 x.f2 x.f3.f0 x.f3.f1 (mayLeafI x) _ (HK.out.below HS1.out.hB) HM.out).mono ?_
     rintro e w2 ⟨rfl, hb⟩
     have HS2 := aM' (HS1.out.below hb)
     have HX2 := aM' (blk_below HX.out hb)
     have HO2 := aM' (ownB HO1.out hb)
     clear hb
     cases hml : mayLeafI x with
     | true =>
      have HML := aM' hml
      clear hml
      have q0 := blk_cell HX2.out 0
      have q1 := blk_cell HX2.out 1
      have q2 := blk_cell HX2.out 2
      have q3 := blk_cell HX2.out 3
      have q4 := blk_cell HX2.out 4
      have x2 := blk_cell HS2.out.h2 0
      simp at q0 q1 q2 q3 q4 x2
      go_wp2_with fail
      refine (tag_LeafNode.calls kl wd x.f0 x.f1 x.f2 x.f3.f0 x.f3.f1 _ _ _ _ (HK.out.below HS2.out.hB) HLN.out).mono ?_
      rintro e w3 ⟨rfl, hb⟩
      have HS3 := aM' (HS2.out.below hb)
      have HO3 := aM' (ownB HO2.out hb)
      clear hb q0 q1 q2 q3 q4 x2
      generalize hnx : leafNodeI wd x = nx
      go_wp2_with (at_builtin; refine wpList_append_own _ rfl _ _ 43 rfl (w.heap.size + 3) 46 i0 (.agg #[(.string ⟨#[]⟩), (.int .u64 0), (.int .u64 0)]) 3 32 Tryd.underlying43 hi hz0 hz1 hz2 rfl (by decide) (.slice A8 i c8) i _ rfl (ownB HO3.out (below_alloc (Below.refl _ _) (.cells (nodeA nx) 46))) ⟨w3.heap.size, 0, none⟩ 1 1 [.string nx.f0, .int .u64 nx.f1.f0, .int .u64 nx.f1.f1] rfl rfl ?c2 ?c3 ?c4 ?c5 ?c6 ?_)
      case c2 => exact World.news_of_block (blk_new w3 (.cells (nodeA nx) 46))
      case c3 =>
       intro u hu
       simp only [List.mem_cons, List.not_mem_nil, or_false] at hu
       rcases hu with rfl | rfl | rfl <;> rfl
      case c4 => have := HN.out; unfold maxLen; omega
      case c5 => have := HN.out; omega
      case c6 => rw [World.size_alloc]; have := HS3.out.lt; omega
      intro v' w' hown hgr hnil
      have hS4 := (HS3.out.below (below_alloc (Below.refl _ _) (.cells (nodeA nx) 46))).grown hgr (fun r hr => (HO3.out.lt r hr).1)
      have HS4 := aM' hS4
      have hown2 : w'.ownsRow (w.heap.size + 3) 46 3 v' (i + 1) (cellsN ((ls.take (i + 1)).map (leafNodeI wd))) := by
       rw [HTK.out, List.map_append, cellsN_append]
       rw [List.map_cons, List.map_nil, hnx]
       rw [← List.map_take] at hown
       exact hown
      have HO4 := aM' hown2
      clear hown hgr hnil hS4 hown2 hnx
      have hi1 : i ≤ 1024 := by have := HN.out; omega
      go_wp2
      go_roundw
      case rel => exact ⟨i + 1, by go_num, ⟨by omega, fun y hy => by
       rw [HTK.out] at hy
       rcases List.mem_append.1 hy with hy | hy
       ·
        exact HI.out.2 y hy
       ·
        rw [List.mem_singleton.1 hy]; exact HML.out⟩, HS4, HO4⟩
      case measure => simp [intOf]; omega
     | false =>
      have HML := aM' hml
      clear hml
      have x4 : w2.cell? ⟨w.heap.size + 1, 0, none⟩ = some (.pointer none) := blk_cell HS2.out.h4 0
      have x5 : w2.cell? ⟨w.heap.size + 1 + 1, 0, none⟩ = some (.int .i64 0) := blk_cell HS2.out.h5 0
      have f4 : ∀ i, w2.frozen? ⟨w.heap.size + 1, i, none⟩ = false := fun i => blk_frozen HS2.out.h4 i
      have f5 : ∀ i, w2.frozen? ⟨w.heap.size + 1 + 1, i, none⟩ = false := fun i => blk_frozen HS2.out.h5 i
      go_wp2
      exact newErr HS2.out rfl rfl (by
       unfold newI
       rw [if_neg HW.out, if_neg (by rw [HP.out]; decide), if_pos]
       exact List.all_eq_false.2 ⟨x, HMEM.out, by rw [HML.out]; decide⟩) (by decide)
    ·
     obtain rfl : i = ls.length := by have := HI.out.1; omega
     have hpos : 0 < ls.length := by
      rcases Nat.eq_zero_or_pos ls.length with h0 | h0
      ·
       have := HP.out; rw [h0] at this; exact absurd this (by decide)
      ·
       exact h0
     have b1 : decide ((ls.length : Int) < (ls.length : Int)) = false := decide_eq_false (by omega)
     have b2 : decide (ls.length < ls.length) = false := decide_eq_false hlt
     have hall : ls.all mayLeafI = true := List.all_eq_true.2 (fun x hx => HI.out.2 x (by rw [List.take_length]; exact hx))
     have ho := HO.out
     rw [List.take_length] at ho
     obtain ⟨gc, cc, hv, -, hgc⟩ := ho.form hpos
     cases hv
     have hnl : (ls.map (leafNodeI wd)).length = ls.length := List.length_map ..
     have HALL := aM' hall
     have HO := aM' ho
     have HPOS := aM' hpos
     have HNL := aM' hnl
     clear hall ho hpos hnl hgc
     obtain ⟨ad, rfl⟩ : ∃ ad, A = some ad := by
      obtain ⟨_, _, h3⟩ := HR.out
      obtain ⟨a, ha, _⟩ := h3 HPOS.out
      exact ⟨a, ha⟩
     go_upto_region 15 with (fail)
     refine wp_forget (fun x => ({ tmps := #[.int .i64 wd, .slice (some ad) ls.length c, .pointer (some ⟨w.heap.size, 0, none⟩), x 3, .pointer (some ⟨w.heap.size + 1, 0, none⟩), .pointer (some ⟨w.heap.size + 1 + 1, 0, none⟩), x 6, x 7, .slice (some ⟨gc, 0, none⟩) ls.length c8, x 9, x 10, x 11, x 12, x 13, x 14, x 15, x 16, x 17, x 18, x 19, x 20, x 21, x 22, x 23, x 24, x 25, x 26, x 27, x 28, x 29, x 30, x 31, x 32, x 33, x 34, x 35, x 36, x 37, x 38, x 39, x 40, x 41, x 42, x 43, x 44, x 45, x 46, x 47, x 48, x 49, x 50, x 51, x 52, x 53, x 54, x 55, x 56, x 57, x 58, x 59, x 60, x 61, x 62, x 63, x 64, x 65, x 66, x 67, x 68, x 69, x 70, x 71, x 72, x 73, x 74, x 75, x 76, x 77, x 78, x 79, x 80, x 81, x 82, x 83, x 84, x 85, x 86, x 87, x 88, x 89, x 90, x 91, x 92, x 93, x 94, x 95, x 96, x 97, x 98, x 99, x 100], defers := [] } : Act)) rfl ?_
     intro x
     have HCL := aM' (fun (V : World) (hb : Below w.heap.size w V) => cloneL.calls ad c ls V (Kd.C_below HR.out hb) HPOS.out HN.out)
     clear b1 b2
     refine region_inv (fun l a W => ∃ γ : Nat, ∃ κ : Nat, ∃ δ : Nat, a = ({ tmps := #[.int .i64 wd, .slice (some ad) ls.length c, .pointer (some ⟨w.heap.size, 0, none⟩), x 3, .pointer (some ⟨w.heap.size + 1, 0, none⟩), .pointer (some ⟨w.heap.size + 1 + 1, 0, none⟩), x 6, x 7, .slice (some ⟨gc, 0, none⟩) ls.length c8, x 9, x 10, sel (l 5) (.pointer (some ⟨δ, 0, none⟩)) (x 11), x 12, x 13, x 14, x 15, x 16, x 17, x 18, x 19, x 20, x 21, x 22, x 23, x 24, x 25, x 26, x 27, x 28, x 29, x 30, x 31, x 32, x 33, x 34, x 35, x 36, x 37, x 38, x 39, x 40, x 41, x 42, x 43, x 44, x 45, x 46, x 47, x 48, x 49, x 50, x 51, x 52, sel (l 0) (.int .i64 wd) (x 53), sel (l 1) (.slice (some ad) ls.length c) (x 54), sel (l 2) (.slice (some ⟨γ, 0, none⟩) ls.length κ) (x 55), sel (l 3) (.agg #[.int .i64 wd, .slice (some ⟨γ, 0, none⟩) ls.length κ, .slice none 0 0]) (x 56), sel (l 4) (.pointer (some ⟨δ, 0, none⟩)) (x 57), x 58, x 59, x 60, x 61, x 62, x 63, x 64, x 65, x 66, x 67, x 68, x 69, x 70, x 71, x 72, x 73, x 74, x 75, x 76, x 77, x 78, x 79, x 80, x 81, x 82, x 83, x 84, x 85, x 86, x 87, x 88, x 89, x 90, x 91, x 92, x 93, x 94, x 95, x 96, x 97, x 98, x 99, x 100], defers := [] } : Act) ∧ Nw15 wr W wd ls l γ κ δ) 6 rfl rfl (by kernel_rfl) ?h0 ?hend ?hstep
     case h0 => exact ⟨0, 0, 0, rfl, below_drew (Below.refl _ _), (fun h => by cases h), (fun h => by cases h), (fun h => by cases h), (fun h => by cases h), (fun h => by cases h)⟩
     case hstep =>
      refine rg_cons (rg_cons (rg_cons (rg_cons (rg_cons (rg_cons (rg_nil) ?s0) ?s1) ?s2) ?s3) ?s4) ?s5
      case s0 =>
       refine rg_step rfl ?_
       rintro l a W ⟨γ, κ, δ, rfl, hI⟩ hl hd
       clear hd
       have x0 := blk_cell (blk_below HS.out.h2 hI.hB) 0
       simp at x0
       refine rg_val (v := .int .i64 wd) (w' := W) rfl (by go_simp) ?_
       refine ⟨γ, κ, δ, ?_, ?_⟩
       ·
        simp only [Act.put, List.setIfInBounds_toArray, List.set_cons_zero, List.set_cons_succ]; rfl
       ·
        exact hI.same 0 (by decide)
      case s1 =>
       refine rg_step rfl ?_
       rintro l a W ⟨γ, κ, δ, rfl, hI⟩ hl hd
       clear hd
       refine rg_val (v := .slice (some ad) ls.length c) (w' := W) rfl (by go_simp) ?_
       refine ⟨γ, κ, δ, ?_, ?_⟩
       ·
        simp only [Act.put, List.setIfInBounds_toArray, List.set_cons_zero, List.set_cons_succ]; rfl
       ·
        exact hI.same 1 (by decide)
      case s2 =>
       refine rg_step rfl ?_
       rintro l a W ⟨γ, κ, δ, rfl, hI⟩ hl hd
       have d1 := hd 1 (by decide)
       clear hd
       refine rg_call rfl (by go_simp; exact ⟨rfl, rfl⟩) ?_
       refine (HCL.out W (HS.out.hB.trans (hI.hB.mono HS.out.hB.size))).mono ?_
       rintro xx W' ⟨g, cap, rfl, ho, hb, hg⟩
       have h3 := hI.no3 hl
       have h3' : upd l 2 3 = false := h3
       refine ⟨_, rfl, g, cap, δ, ?_, ?_⟩
       ·
        simp only [Act.put, List.setIfInBounds_toArray, List.set_cons_zero, List.set_cons_succ, h3, h3']; rfl
       ·
        exact hI.clone hl hb ho hg HPOS.out
      case s3 =>
       refine rg_step rfl ?_
       rintro l a W ⟨γ, κ, δ, rfl, hI⟩ hl hd
       have d0 := hd 0 (by decide)
       have d2 := hd 2 (by decide)
       clear hd
       refine rg_val (v := .agg #[.int .i64 wd, .slice (some ⟨γ, 0, none⟩) ls.length κ, .slice none 0 0]) (w' := W) rfl (by go_simp) ?_
       refine ⟨γ, κ, δ, ?_, ?_⟩
       ·
        simp only [Act.put, List.setIfInBounds_toArray, List.set_cons_zero, List.set_cons_succ]; rfl
       ·
        exact hI.three d2
      case s4 =>
       refine rg_step rfl ?_
       rintro l a W ⟨γ, κ, δ, rfl, hI⟩ hl hd
       have d3 := hd 3 (by decide)
       clear hd
       refine rg_val (v := .pointer (some ⟨W.heap.size, 0, none⟩)) (w' := W.alloc (.cells #[.int .i64 wd, .slice (some ⟨γ, 0, none⟩) ls.length κ, .slice none 0 0] 105 (0, 0))) rfl (by go_simp) ?_
       have h5 := hI.no5 hl
       have h5' : upd l 4 5 = false := h5
       refine ⟨γ, κ, W.heap.size, ?_, ?_⟩
       ·
        simp only [Act.put, List.setIfInBounds_toArray, List.set_cons_zero, List.set_cons_succ, h5, h5']; rfl
       ·
        exact hI.box d3
      case s5 =>
       refine rg_step rfl ?_
       rintro l a W ⟨γ, κ, δ, rfl, hI⟩ hl hd
       have d4 := hd 4 (by decide)
       clear hd
       refine rg_val (v := .pointer (some ⟨δ, 0, none⟩)) (w' := W) rfl (by go_simp) ?_
       refine ⟨γ, κ, δ, ?_, ?_⟩
       ·
        simp only [Act.put, List.setIfInBounds_toArray, List.set_cons_zero, List.set_cons_succ]; rfl
       ·
        exact hI.five d4
     case hend =>
      rintro l a W ⟨γ, κ, δ, rfl, hI⟩ hall
      have e0 := hall 0 (by decide)
      have e1 := hall 1 (by decide)
      have e2 := hall 2 (by decide)
      have e3 := hall 3 (by decide)
      have e4 := hall 4 (by decide)
      have e5 := hall 5 (by decide)
      clear hall
      have hl := hI.hl e2
      have ht := hI.ht e4
      have hB := hI.hB
      simp only [e0, e1, e2, e3, e4, e5, sel_true]
      clear e0 e1 e2 e3 e4 e5
      clear hI
      obtain ⟨l1, l2, l3⟩ := hl
      obtain ⟨t1, t2, t3⟩ := ht
      have hsz := HS.out.lt
      have hbs := HS.out.below hB
      have hcur := ownB HO.out hB
      have hgcl := (HO.out.lt gc rfl)
      obtain ⟨nodes, hnodes⟩ : ∃ n, n = ls.map (leafNodeI wd) := ⟨_, rfl⟩
      have hnl : nodes.length = ls.length := by rw [hnodes]; exact HNL.out
      rw [← hnodes, ← hnl] at hcur
      obtain ⟨K, hK⟩ := isPow_spec HP.out
      have hK10 : K ≤ 10 := by
       rcases Nat.lt_or_ge 10 K with h | h
       ·
        have := Nat.pow_le_pow_right (n := 2) (by decide) (show 11 ≤ K by omega)
        have := HN.out
        omega
       ·
        exact h
      have hH : NwH w wd ls δ γ κ [] [] [] nodes gc c8 none 0 W := by
       obtain ⟨cs, hcs⟩ := own_cells hcur rfl
       refine ⟨⟨hbs, t3, own_base l3 (by omega), World.ownsRow_nil _ _ _ _, trivial, ?_, (fun k hk => by cases hk), by omega, List.nodup_nil, (fun D hD => by cases hD)⟩, hcur, ⟨hgcl.1, ?_, (fun h => by cases h), cs, _, _, hcs⟩, ⟨K, K, hnl.trans hK, hK, by simp, by rw [hnodes]; rfl⟩, ?_, by rw [hnodes], ⟨Nat.zero_le _, by rw [hnl]; exact HN.out, HN.out⟩, fun D hD => by cases hD⟩
       ·
        simp only [List.map_nil, List.nodup_cons, List.mem_cons, List.not_mem_nil, or_false, not_false_eq_true, List.nodup_nil, and_true]
        exact t2
       ·
        simp only [List.map_nil, List.mem_cons, List.not_mem_nil, or_false]
        omega
       ·
        intro x hx
        rw [hnodes] at hx
        obtain ⟨y, hy, rfl⟩ := List.mem_map.1 hx
        have h1 := List.all_eq_true.1 HALL.out y hy
        have h2 := HW.out
        refine ⟨?_, leafNodeI_ok wd y (HL.out y hy).ub⟩
        unfold leafNodeI
        rw [if_pos ⟨⟨by omega, by omega⟩, h1⟩]
        have e : ((dgI wd (leafTextI y)).size : Int) = wd := by rw [dgI_size _ _ (by omega) (by omega)]; omega
        simp only [nodeOf, e]
        simp
        omega
      have HH := aM' hH
      clear l1 l2 l3 t1 t2 t3 hsz hbs hcur hgcl hH hK hK10 hB
      have HNODES := aM' hnodes
      have HNL2 := aM' hnl
      clear hnl hnodes
      go_wp2_with fail
      refine wp_forget (fun x => ({ tmps := #[.int .i64 wd, .slice (some ad) ls.length c, .pointer (some ⟨w.heap.size, 0, none⟩), x 3, .pointer (some ⟨w.heap.size + 1, 0, none⟩), .pointer (some ⟨w.heap.size + 1 + 1, 0, none⟩), x 6, x 7, .slice (some ⟨gc, 0, none⟩) ls.length c8, x 9, x 10, .pointer (some ⟨δ, 0, none⟩), x 12, x 13, x 14, x 15, x 16, x 17, x 18, x 19, x 20, x 21, x 22, x 23, x 24, x 25, x 26, x 27, x 28, x 29, x 30, x 31, x 32, x 33, x 34, x 35, x 36, x 37, x 38, x 39, x 40, x 41, x 42, x 43, x 44, x 45, x 46, x 47, x 48, x 49, x 50, x 51, x 52, x 53, x 54, x 55, x 56, x 57, x 58, x 59, x 60, x 61, x 62, x 63, x 64, x 65, x 66, x 67, x 68, x 69, x 70, x 71, x 72, x 73, x 74, x 75, x 76, x 77, x 78, x 79, x 80, x 81, x 82, x 83, x 84, x 85, x 86, x 87, x 88, x 89, x 90, x 91, x 92, x 93, x 94, x 95, x 96, x 97, x 98, x 99, x 100], defers := [] } : Act)) rfl ?_
      intro x
      obtain ⟨I, hI⟩ : ∃ I : Act → World → Prop, I = fun a V => ∃ (x : Nat → Value) (gs : List RowG) (done : List (List SNode)) (ds : List Nat) (cur : List SNode) (gc cc : Nat) (A9 : Option Addr) (c9 : Nat), a = ({ tmps := #[.int .i64 wd, .slice (some ad) ls.length c, .pointer (some ⟨w.heap.size, 0, none⟩), x 3, .pointer (some ⟨w.heap.size + 1, 0, none⟩), .pointer (some ⟨w.heap.size + 1 + 1, 0, none⟩), x 6, x 7, .slice (some ⟨gc, 0, none⟩) cur.length cc, x 9, x 10, .pointer (some ⟨δ, 0, none⟩), x 12, x 13, x 14, x 15, x 16, x 17, x 18, x 19, x 20, x 21, x 22, x 23, x 24, x 25, x 26, x 27, x 28, x 29, x 30, x 31, x 32, x 33, x 34, x 35, x 36, x 37, x 38, x 39, x 40, x 41, x 42, x 43, x 44, x 45, x 46, x 47, x 48, x 49, x 50, x 51, x 52, x 53, x 54, x 55, x 56, x 57, x 58, x 59, x 60, x 61, x 62, x 63, x 64, x 65, x 66, x 67, x 68, x 69, x 70, x 71, x 72, x 73, x 74, x 75, x 76, x 77, x 78, x 79, x 80, x 81, x 82, x 83, x 84, x 85, x 86, x 87, x 88, x 89, x 90, x 91, x 92, x 93, x 94, x 95, x 96, x 97, x 98, x 99, x 100], defers := ds.map markD } : Act) ∧ NwH w wd ls δ γ κ gs done ds cur gc cc A9 c9 V := ⟨_, rfl⟩
      refine wp_loop I (fun a _ => lenT a) ?lstart ?lround
      case lstart =>
       rw [hI]
       refine ⟨x, [], [], [], nodes, gc, c8, none, 0, ?_, HH.out⟩
       rw [HNL2.out]
       rfl
      case lround =>
       clear HH HO
       intro a V ha
       rw [hI] at ha
       obtain ⟨x, gs, done, ds, cur, gc, cc, A9, c9, rfl, hH⟩ := ha
       have HI := aM' hI
       have HH := aM' hH
       clear hI hH
       have hT := HH.out.t
       have hO := HH.out.o
       have hm := HH.out.m
       have hlen := hT.hg.len
       obtain ⟨j0, hj, hj0, hj1, hj2⟩ := info_parts levelInfo
       have HTT := aM' hT
       have HOO := aM' hO
       have HMM := aM' hm
       clear hT hO hlen
       go_wp2_with fail
       refine region_inv (fun l a W => ∃ γ1 : Nat, ∃ γ2 : Nat, ∃ κ2 : Nat, a = ({ tmps := #[.int .i64 wd, .slice (some ad) ls.length c, .pointer (some ⟨w.heap.size, 0, none⟩), x 3, .pointer (some ⟨w.heap.size + 1, 0, none⟩), .pointer (some ⟨w.heap.size + 1 + 1, 0, none⟩), x 6, x 7, .slice (some ⟨gc, 0, none⟩) cur.length cc, x 9, x 10, .pointer (some ⟨δ, 0, none⟩), x 12, x 13, x 14, x 15, x 16, x 17, x 18, x 19, x 20, x 21, x 22, x 23, x 24, x 25, x 26, x 27, x 28, x 29, x 30, x 31, x 32, x 33, x 34, x 35, x 36, x 37, x 38, x 39, x 40, x 41, x 42, x 43, x 44, x 45, x 46, x 47, x 48, x 49, x 50, x 51, x 52, x 53, x 54, x 55, x 56, x 57, sel (l 0) (.pointer (some ⟨δ, 0, none⟩)) (x 58), sel (l 1) (.pointer (some ⟨δ, 0, none⟩)) (x 59), sel (l 2) (.pointer (some ⟨δ, 0, none⟩)) (x 60), sel (l 3) (.pointer (some ⟨δ, 2, none⟩)) (x 61), sel (l 4) (.slice A9 done.length c9) (x 62), sel (l 5) (.slice (some ⟨gc, 0, none⟩) cur.length cc) (x 63), sel (l 6) (.agg #[.slice (some ⟨gc, 0, none⟩) cur.length cc]) (x 64), sel (l 7) (.pointer (some ⟨δ, 0, none⟩)) (x 65), sel (l 8) (.pointer (some ⟨δ, 0, none⟩)) (x 66), sel (l 9) (.pointer (some ⟨δ, 2, none⟩)) (x 67), sel (l 10) (.slice A9 done.length c9) (x 68), sel (l 11) (.int .i64 (done.length : Int)) (x 69), sel (l 12) (.agg #[.slice (some ⟨gc, 0, none⟩) cur.length cc, .int .i64 (done.length : Int)]) (x 70), sel (l 13) (.slice (some ⟨γ1, 0, none⟩) 1 1) (x 71), sel (l 14) (.slice (some ⟨γ2, 0, none⟩) (done.length + 1) κ2) (x 72), sel (l 15) (.pointer (some ⟨δ, 0, none⟩)) (x 73), sel (l 16) (.pointer (some ⟨δ, 2, none⟩)) (x 74), x 75, x 76, x 77, x 78, x 79, x 80, x 81, x 82, x 83, x 84, x 85, x 86, x 87, x 88, x 89, x 90, x 91, x 92, x 93, x 94, x 95, x 96, x 97, x 98, x 99, x 100], defers := ds.map markD } : Act) ∧ Nw16 w V W wd ls δ γ κ (.slice A9 done.length c9) gs done ds (gc, cc) cur l γ1 γ2 κ2) 18 rfl rfl (by kernel_rfl) ?h0 ?hend ?hstep
       case h0 => exact ⟨0, 0, 0, rfl, ⟨fun _ => below_drew (Below.refl _ _), (fun h => by cases h), (fun h => by cases h), (fun h => by cases h), (fun h => by cases h), (fun h => by cases h), (fun h => by cases h), (fun h => by cases h), (fun h => by cases h)⟩⟩
       case hstep =>
        refine rg_cons (rg_cons (rg_cons (rg_cons (rg_cons (rg_cons (rg_cons (rg_cons (rg_cons (rg_cons (rg_cons (rg_cons (rg_cons (rg_cons (rg_cons (rg_cons (rg_cons (rg_cons (rg_nil) ?s0) ?s1) ?s2) ?s3) ?s4) ?s5) ?s6) ?s7) ?s8) ?s9) ?s10) ?s11) ?s12) ?s13) ?s14) ?s15) ?s16) ?s17
        case s0 =>
         refine rg_step rfl ?_
         rintro l a W ⟨γ1, γ2, κ2, rfl, hI⟩ hl hd
         clear hd
         refine rg_val (v := .pointer (some ⟨δ, 0, none⟩)) (w' := W) rfl (by go_simp) ?_
         refine ⟨γ1, γ2, κ2, ?_, ?_⟩
         ·
          simp only [Act.put, List.setIfInBounds_toArray, List.set_cons_zero, List.set_cons_succ]; rfl
         ·
          exact hI.pure 0 (by decide) (fun h => absurd h (by decide)) (fun h => absurd h (by decide))
        case s1 =>
         refine rg_step rfl ?_
         rintro l a W ⟨γ1, γ2, κ2, rfl, hI⟩ hl hd
         clear hd
         refine rg_val (v := .pointer (some ⟨δ, 0, none⟩)) (w' := W) rfl (by go_simp) ?_
         refine ⟨γ1, γ2, κ2, ?_, ?_⟩
         ·
          simp only [Act.put, List.setIfInBounds_toArray, List.set_cons_zero, List.set_cons_succ]; rfl
         ·
          exact hI.pure 1 (by decide) (fun h => absurd h (by decide)) (fun h => absurd h (by decide))
        case s2 =>
         refine rg_step rfl ?_
         rintro l a W ⟨γ1, γ2, κ2, rfl, hI⟩ hl hd
         have d1 := hd 1 (by decide)
         clear hd
         refine rg_val (v := .pointer (some ⟨δ, 0, none⟩)) (w' := W) rfl (by go_simp) ?_
         refine ⟨γ1, γ2, κ2, ?_, ?_⟩
         ·
          simp only [Act.put, List.setIfInBounds_toArray, List.set_cons_zero, List.set_cons_succ]; rfl
         ·
          exact hI.pure 2 (by decide) (fun h => absurd h (by decide)) (fun h => absurd h (by decide))
        case s3 =>
         refine rg_step rfl ?_
         rintro l a W ⟨γ1, γ2, κ2, rfl, hI⟩ hl hd
         have d2 := hd 2 (by decide)
         clear hd
         refine rg_val (v := .pointer (some ⟨δ, 2, none⟩)) (w' := W) rfl (by go_simp) ?_
         refine ⟨γ1, γ2, κ2, ?_, ?_⟩
         ·
          simp only [Act.put, List.setIfInBounds_toArray, List.set_cons_zero, List.set_cons_succ]; rfl
         ·
          exact hI.pure 3 (by decide) (fun h => absurd h (by decide)) (fun h => absurd h (by decide))
        case s4 =>
         refine rg_step rfl ?_
         rintro l a W ⟨γ1, γ2, κ2, rfl, hI⟩ hl hd
         have d3 := hd 3 (by decide)
         clear hd
         have hb := hI.hA (hI.no4 hl)
         have x0 := blk_cell (blk_below HTT.out.ht hb) 2
         simp at x0
         refine rg_val (v := .slice A9 done.length c9) (w' := W) rfl (by go_simp) ?_
         refine ⟨γ1, γ2, κ2, ?_, ?_⟩
         ·
          simp only [Act.put, List.setIfInBounds_toArray, List.set_cons_zero, List.set_cons_succ]; rfl
         ·
          exact hI.pure 4 (by decide) (fun h => absurd h (by decide)) (fun h => absurd h (by decide))
        case s5 =>
         refine rg_step rfl ?_
         rintro l a W ⟨γ1, γ2, κ2, rfl, hI⟩ hl hd
         clear hd
         refine rg_val (v := .slice (some ⟨gc, 0, none⟩) cur.length cc) (w' := W) rfl (by go_simp) ?_
         refine ⟨γ1, γ2, κ2, ?_, ?_⟩
         ·
          simp only [Act.put, List.setIfInBounds_toArray, List.set_cons_zero, List.set_cons_succ]; rfl
         ·
          exact hI.pure 5 (by decide) (fun h => absurd h (by decide)) (fun h => absurd h (by decide))
        case s6 =>
         refine rg_step rfl ?_
         rintro l a W ⟨γ1, γ2, κ2, rfl, hI⟩ hl hd
         have d5 := hd 5 (by decide)
         clear hd
         refine rg_val (v := .agg #[.slice (some ⟨gc, 0, none⟩) cur.length cc]) (w' := W) rfl (by go_simp) ?_
         refine ⟨γ1, γ2, κ2, ?_, ?_⟩
         ·
          simp only [Act.put, List.setIfInBounds_toArray, List.set_cons_zero, List.set_cons_succ]; rfl
         ·
          exact hI.pure 6 (by decide) (fun h => absurd h (by decide)) (fun h => absurd h (by decide))
        case s7 =>
         refine rg_step rfl ?_
         rintro l a W ⟨γ1, γ2, κ2, rfl, hI⟩ hl hd
         clear hd
         refine rg_val (v := .pointer (some ⟨δ, 0, none⟩)) (w' := W) rfl (by go_simp) ?_
         refine ⟨γ1, γ2, κ2, ?_, ?_⟩
         ·
          simp only [Act.put, List.setIfInBounds_toArray, List.set_cons_zero, List.set_cons_succ]; rfl
         ·
          exact hI.pure 7 (by decide) (fun h => absurd h (by decide)) (fun h => absurd h (by decide))
        case s8 =>
         refine rg_step rfl ?_
         rintro l a W ⟨γ1, γ2, κ2, rfl, hI⟩ hl hd
         have d7 := hd 7 (by decide)
         clear hd
         refine rg_val (v := .pointer (some ⟨δ, 0, none⟩)) (w' := W) rfl (by go_simp) ?_
         refine ⟨γ1, γ2, κ2, ?_, ?_⟩
         ·
          simp only [Act.put, List.setIfInBounds_toArray, List.set_cons_zero, List.set_cons_succ]; rfl
         ·
          exact hI.pure 8 (by decide) (fun h => absurd h (by decide)) (fun h => absurd h (by decide))
        case s9 =>
         refine rg_step rfl ?_
         rintro l a W ⟨γ1, γ2, κ2, rfl, hI⟩ hl hd
         have d8 := hd 8 (by decide)
         clear hd
         refine rg_val (v := .pointer (some ⟨δ, 2, none⟩)) (w' := W) rfl (by go_simp) ?_
         refine ⟨γ1, γ2, κ2, ?_, ?_⟩
         ·
          simp only [Act.put, List.setIfInBounds_toArray, List.set_cons_zero, List.set_cons_succ]; rfl
         ·
          exact hI.pure 9 (by decide) (fun h => absurd h (by decide)) (fun h => absurd h (by decide))
        case s10 =>
         refine rg_step rfl ?_
         rintro l a W ⟨γ1, γ2, κ2, rfl, hI⟩ hl hd
         have d9 := hd 9 (by decide)
         clear hd
         have hb := hI.hA (hI.no10 hl)
         have x0 := blk_cell (blk_below HTT.out.ht hb) 2
         simp at x0
         refine rg_val (v := .slice A9 done.length c9) (w' := W) rfl (by go_simp) ?_
         refine ⟨γ1, γ2, κ2, ?_, ?_⟩
         ·
          simp only [Act.put, List.setIfInBounds_toArray, List.set_cons_zero, List.set_cons_succ]; rfl
         ·
          exact hI.pure 10 (by decide) (fun h => absurd h (by decide)) (fun h => absurd h (by decide))
        case s11 =>
         refine rg_step rfl ?_
         rintro l a W ⟨γ1, γ2, κ2, rfl, hI⟩ hl hd
         have d10 := hd 10 (by decide)
         clear hd
         refine rg_val (v := .int .i64 (done.length : Int)) (w' := W) rfl (by go_simp) ?_
         refine ⟨γ1, γ2, κ2, ?_, ?_⟩
         ·
          simp only [Act.put, List.setIfInBounds_toArray, List.set_cons_zero, List.set_cons_succ]; rfl
         ·
          exact hI.pure 11 (by decide) (fun _ => d10) (fun h => absurd h (by decide))
        case s12 =>
         refine rg_step rfl ?_
         rintro l a W ⟨γ1, γ2, κ2, rfl, hI⟩ hl hd
         have d6 := hd 6 (by decide)
         have d11 := hd 11 (by decide)
         clear hd
         refine rg_val (v := .agg #[.slice (some ⟨gc, 0, none⟩) cur.length cc, .int .i64 (done.length : Int)]) (w' := W) rfl (by go_simp) ?_
         refine ⟨γ1, γ2, κ2, ?_, ?_⟩
         ·
          simp only [Act.put, List.setIfInBounds_toArray, List.set_cons_zero, List.set_cons_succ]; rfl
         ·
          exact hI.pure 12 (by decide) (fun h => absurd h (by decide)) (fun _ => d11)
        case s13 =>
         refine rg_step rfl ?_
         rintro l a W ⟨γ1, γ2, κ2, rfl, hI⟩ hl hd
         have d12 := hd 12 (by decide)
         clear hd
         refine rg_val (v := .slice (some ⟨W.heap.size, 0, none⟩) 1 1) (w' := W.alloc (.cells #[.slice (some ⟨gc, 0, none⟩) cur.length cc, .int .i64 (done.length : Int)] 109 (0, 0))) rfl (by go_simp) ?_
         have h14 := hI.no13 hl
         refine ⟨W.heap.size, γ2, κ2, ?_, ?_⟩
         ·
          simp only [Act.put, List.setIfInBounds_toArray, List.set_cons_zero, List.set_cons_succ]; rfl
         ·
          exact hI.made hl d12
        case s14 =>
         refine rg_step rfl ?_
         rintro l a W ⟨γ1, γ2, κ2, rfl, hI⟩ hl hd
         have d4 := hd 4 (by decide)
         have d13 := hd 13 (by decide)
         clear hd
         have h14 : l 14 = false := hl
         have h17 := hI.no17 h14
         have hb := hI.hA h14
         have hgt := hI.hT d13 h14
         obtain ⟨g, κ', W', hrun, hown, hgr, hgg, -⟩ := run_append_lies (P := Tryd.prog) W 103 103 (w.heap.size + 3) 109 j0 (.agg #[.slice none 0 0, .int .i64 0]) 2 32 Tryd.underlying103 hj hj0 hj1 hj2 rfl (by decide) (.slice A9 done.length c9) done.length _ (ownB HTT.out.hv hb) ⟨γ1, 0, none⟩ 1 1 [.slice (some ⟨gc, 0, none⟩) cur.length cc, .int .i64 (done.length : Int)] rfl (World.news_of_block hgt) (by
          intro u hu
          simp only [List.mem_cons, List.not_mem_nil, or_false] at hu
          rcases hu with rfl | rfl <;> rfl) (by decide) (by have := HMM.out.1; unfold maxLen; omega) (by have := HMM.out.1; omega) (by have := HTT.out.bx.lt; have := hb.size; omega) W.heap.size rfl
         refine rg_val (v := .slice (some ⟨g, 0, none⟩) (done.length + 1) κ') (w' := W') rfl (exec_append (.tmp 62) (.tmp 71) 103 rfl (.slice A9 done.length c9) (.slice (some ⟨γ1, 0, none⟩) 1 1) (by show sel (l 4) _ _ = _; rw [d4]; rfl) (by show sel (l 13) _ _ = _; rw [d13]; rfl) hrun) ?_
         refine ⟨γ1, g, κ', ?_, ?_⟩
         ·
          simp only [Act.put, List.setIfInBounds_toArray, List.set_cons_zero, List.set_cons_succ]; rfl
         ·
          exact hI.appended HTT.out hl d13 d4 hgr hown hgg
        case s15 =>
         refine rg_step rfl ?_
         rintro l a W ⟨γ1, γ2, κ2, rfl, hI⟩ hl hd
         have d0 := hd 0 (by decide)
         clear hd
         refine rg_val (v := .pointer (some ⟨δ, 0, none⟩)) (w' := W) rfl (by go_simp) ?_
         refine ⟨γ1, γ2, κ2, ?_, ?_⟩
         ·
          simp only [Act.put, List.setIfInBounds_toArray, List.set_cons_zero, List.set_cons_succ]; rfl
         ·
          exact hI.pure 15 (by decide) (fun h => absurd h (by decide)) (fun h => absurd h (by decide))
        case s16 =>
         refine rg_step rfl ?_
         rintro l a W ⟨γ1, γ2, κ2, rfl, hI⟩ hl hd
         have d15 := hd 15 (by decide)
         clear hd
         refine rg_val (v := .pointer (some ⟨δ, 2, none⟩)) (w' := W) rfl (by go_simp) ?_
         refine ⟨γ1, γ2, κ2, ?_, ?_⟩
         ·
          simp only [Act.put, List.setIfInBounds_toArray, List.set_cons_zero, List.set_cons_succ]; rfl
         ·
          exact hI.pure 16 (by decide) (fun h => absurd h (by decide)) (fun h => absurd h (by decide))
        case s17 =>
         refine rg_step rfl ?_
         rintro l a W ⟨γ1, γ2, κ2, rfl, hI⟩ hl hd
         have d14 := hd 14 (by decide)
         have d16 := hd 16 (by decide)
         clear hd
         obtain ⟨q1, q2, q3, q4⟩ := hI.hP d14 hl
         have hx := (q1 δ (blk_lt HTT.out.ht) (fun e => HTT.out.av δ e (List.mem_cons_self ..))).trans HTT.out.ht
         have y2 := blk_cell hx 2
         have yf := fun i => blk_frozen hx i
         simp at y2
         refine rg_skip rfl (by go_simp; rfl) ?_
         refine ⟨γ1, γ2, κ2, ?_, ?_⟩
         ·
          simp only [Act.put, List.setIfInBounds_toArray, List.set_cons_zero, List.set_cons_succ]; rfl
         ·
          exact hI.stored HTT.out HH.out.c HOO.out hl d14
       case hend =>
        rintro l a W ⟨γ1, γ2, κ2, rfl, hI⟩ hall
        have e0 := hall 0 (by decide)
        have e1 := hall 1 (by decide)
        have e2 := hall 2 (by decide)
        have e3 := hall 3 (by decide)
        have e4 := hall 4 (by decide)
        have e5 := hall 5 (by decide)
        have e6 := hall 6 (by decide)
        have e7 := hall 7 (by decide)
        have e8 := hall 8 (by decide)
        have e9 := hall 9 (by decide)
        have e10 := hall 10 (by decide)
        have e11 := hall 11 (by decide)
        have e12 := hall 12 (by decide)
        have e13 := hall 13 (by decide)
        have e14 := hall 14 (by decide)
        have e15 := hall 15 (by decide)
        have e16 := hall 16 (by decide)
        have e17 := hall 17 (by decide)
        clear hall
        have hQ := hI.hQ e17
        simp only [e0, e1, e2, e3, e4, e5, e6, e7, e8, e9, e10, e11, e12, e13, e14, e15, e16, e17, sel_true]
        clear e0 e1 e2 e3 e4 e5 e6 e7 e8 e9 e10 e11 e12 e13 e14 e15 e16 e17
        clear hI
        have HQ := aM' hQ
        clear hQ
        go_upto_region 17 with (fail)
        refine wp_forget (fun x => ({ tmps := #[.int .i64 wd, .slice (some ad) ls.length c, .pointer (some ⟨w.heap.size, 0, none⟩), x 3, .pointer (some ⟨w.heap.size + 1, 0, none⟩), .pointer (some ⟨w.heap.size + 1 + 1, 0, none⟩), x 6, x 7, .slice (some ⟨gc, 0, none⟩) cur.length cc, x 9, x 10, .pointer (some ⟨δ, 0, none⟩), x 12, x 13, x 14, x 15, x 16, x 17, x 18, x 19, x 20, x 21, x 22, x 23, x 24, x 25, x 26, x 27, x 28, x 29, x 30, x 31, x 32, x 33, x 34, x 35, x 36, x 37, x 38, x 39, x 40, x 41, x 42, x 43, x 44, x 45, x 46, x 47, x 48, x 49, x 50, x 51, x 52, x 53, x 54, x 55, x 56, x 57, x 58, x 59, x 60, x 61, x 62, x 63, x 64, x 65, x 66, x 67, x 68, x 69, x 70, x 71, x 72, x 73, x 74, x 75, x 76, x 77, x 78, x 79, x 80, x 81, x 82, x 83, x 84, x 85, x 86, x 87, x 88, x 89, x 90, x 91, x 92, x 93, x 94, x 95, x 96, x 97, x 98, x 99, x 100], defers := ds.map markD } : Act)) rfl ?_
        intro x
        by_cases h1 : cur.length = 1
        ·
         have b1 : ((cur.length : Int) == 1) = true := by simp; omega
         obtain ⟨ht, hr⟩ := HH.out.one h1
         have x4 := blk_cell HQ.out.bx.h4 0
         have x5 := blk_cell HQ.out.bx.h5 0
         have f4 := fun i => blk_frozen HQ.out.bx.h4 i
         have f5 := fun i => blk_frozen HQ.out.bx.h5 i
         simp at x4 x5
         have HR2 := aM' hr
         have HT2 := aM' ht
         clear h1 hr ht
         go_wp2
         exact newDone HQ.out HH.out.d rfl rfl (newI_ok HW.out HP.out HALL.out HT2.out) HR2.out
        ·
         have b1 : ((cur.length : Int) == 1) = false := by simp; omega
         have H1 := aM' h1
         clear h1
         go_wp2_with fail
         obtain ⟨b12, hb12⟩ : ∃ b, b = W.heap.size := ⟨_, rfl⟩
         obtain ⟨W2, hW2⟩ : ∃ V, V = W.alloc (.cells #[.slice none 0 0] 43) := ⟨_, rfl⟩
         have hx2 : NxS w wd ls δ γ κ (.slice (some ⟨γ2, 0, none⟩) (done.length + 1) κ2) (gs ++ [(gc, cc)]) (done ++ [cur]) ds b12 (b12 + 3) [] W2 := by
          rw [hW2, hb12]
          exact ⟨by omega, HQ.out.below (below_alloc (Below.refl _ _) _), HQ.out.bd, none, 0, blk_new W _, World.ownsRow_nil _ _ _ _⟩
         have hs2 : W2.heap.size = b12 + 1 := by rw [hW2, hb12]; simp
         obtain ⟨k, K, e1, -⟩ := HH.out.k
         obtain ⟨m, hm, hm1⟩ : ∃ m, cur.length = 2 * m ∧ 1 ≤ m := by
          cases k with
          | zero => exact absurd e1 H1.out
          | succ k => exact ⟨2 ^ k, by rw [e1, Nat.pow_succ, Nat.mul_comm], Nat.two_pow_pos k⟩
         rw [← hW2, ← hb12]
         clear hW2 hb12 b1 e1
         refine (chunk.calls (some ⟨gc, 0, none⟩) cur.length cc W2).mono ?_
         rintro e w3 ⟨rfl, hw3⟩
         have hS : w3.heap[W2.heap.size]? = some (.cells #[.slice (some ⟨gc, 0, none⟩) cur.length cc] 43 (0, 0)) := by rw [hw3]; exact blk_alloc (blk_new W2 _) _
         have hN : w3.heap[W2.heap.size + 1]? = some (.cells #[.int .i64 2] 3 (0, 0)) := by
          rw [hw3]
          have := blk_new (W2.alloc (.cells #[.slice (some ⟨gc, 0, none⟩) cur.length cc] 43)) (.cells #[.int .i64 2] 3)
          rwa [World.size_alloc] at this
         have hb3 : Below W2.heap.size W2 w3 := by rw [hw3]; exact below_alloc (below_alloc (Below.refl _ _) _) _
         have hx3 := hx2.below hb3
         have hz3 : w3.heap.size = W2.heap.size + 2 := by rw [hw3]; simp
         have HS2 := aM' hS
         have HN2 := aM' hN
         have HX3 := aM' hx3
         have HZ := aM' (And.intro hz3 hs2)
         have HM := aM' (And.intro hm hm1)
         clear hw3 hS hN hx3 hz3 hs2 hx2 hm hm1 hb3
         have HL9 := aM' HH.out.t.hg.len
         have HM5 := aM' (show m ≤ 1000000 by have := HM.out.1; have := HH.out.m.2.1; omega)
         have hW3 : w3.heap.size = b12 + 3 := by have := HZ.out.1; have := HZ.out.2; omega
         have HW3 := aM' hW3
         clear hW3
         go_wp2_with fail
         refine wp_forget (fun x => ({ tmps := #[.int .i64 wd, .slice (some ad) ls.length c, .pointer (some ⟨w.heap.size, 0, none⟩), x 3, .pointer (some ⟨w.heap.size + 1, 0, none⟩), .pointer (some ⟨w.heap.size + 1 + 1, 0, none⟩), x 6, x 7, .slice (some ⟨gc, 0, none⟩) cur.length cc, x 9, x 10, .pointer (some ⟨δ, 0, none⟩), .pointer (some ⟨b12, 0, none⟩), x 13, x 14, x 15, x 16, x 17, x 18, x 19, x 20, x 21, x 22, x 23, x 24, x 25, x 26, x 27, x 28, x 29, x 30, x 31, x 32, x 33, x 34, x 35, x 36, x 37, x 38, x 39, x 40, x 41, x 42, x 43, x 44, x 45, x 46, x 47, x 48, x 49, x 50, x 51, x 52, x 53, x 54, x 55, x 56, x 57, x 58, x 59, x 60, x 61, x 62, x 63, x 64, x 65, x 66, x 67, x 68, x 69, x 70, x 71, x 72, x 73, x 74, x 75, x 76, x 77, x 78, x 79, .func (.func 95) #[] #[.pointer (some ⟨W2.heap.size, 0, none⟩), .pointer (some ⟨W2.heap.size + 1, 0, none⟩)], x 81, x 82, x 83, x 84, x 85, x 86, x 87, x 88, x 89, x 90, x 91, x 92, x 93, x 94, x 95, x 96, x 97, x 98, x 99, x 100], defers := ds.map markD } : Act)) rfl ?_
         intro x
         refine (wpIn_wide (n := 3)).1 ?_
         refine wpIn_rangeFunc_ownH (α := { j : Nat // j < m }) (n := 3) rfl (by omega) (gf := 95) (lb := #[.pointer (some ⟨W2.heap.size, 0, none⟩), .pointer (some ⟨W2.heap.size + 1, 0, none⟩)]) rfl trivial (enters_of Tryd.func95 (by kernel_rfl) rfl) (encs := fun y => #[chunkV ⟨gc, 0, none⟩ y.1]) (Kp := KeepS (fun k => k = W2.heap.size ∨ k = W2.heap.size + 1))
          (S := fun ys => ys.map Subtype.val = List.range m) (Sp := fun pre => True) (N := m) (w0 := w3) ?hseq (fun h k => KeepS.trans h k) ?hKb (Below.refl _ _) (fun _ => rfl)
          (fun pre V => (∀ y ∈ pre, twoOk cur y.1) ∧ NxS w wd ls δ γ κ (.slice (some ⟨γ2, 0, none⟩) (done.length + 1) κ2) (gs ++ [(gc, cc)]) (done ++ [cur]) ds b12 (b12 + 3) (pre.map fun y => twoV wd cur y.1) V ∧ w3.heap.size ≤ V.heap.size)
          (fun c2 pre V => c2 = .ret ∧ (∃ y ∈ pre, ¬ twoOk cur y.1) ∧ NxE w ds V)
          ?hI ?hIx ⟨fun y hy => absurd hy (List.not_mem_nil), HX3.out, Nat.le_refl _⟩
          (fun y a' V => a' = ({ tmps := #[.int .i64 wd, .slice (some ad) ls.length c, .pointer (some ⟨w.heap.size, 0, none⟩), x 3, .pointer (some ⟨w.heap.size + 1, 0, none⟩), .pointer (some ⟨w.heap.size + 1 + 1, 0, none⟩), x 6, x 7, .slice (some ⟨gc, 0, none⟩) cur.length cc, x 9, x 10, .pointer (some ⟨δ, 0, none⟩), .pointer (some ⟨b12, 0, none⟩), chunkV ⟨gc, 0, none⟩ y.1, x 14, x 15, x 16, x 17, x 18, x 19, x 20, x 21, x 22, x 23, x 24, x 25, x 26, x 27, x 28, x 29, x 30, x 31, x 32, x 33, x 34, x 35, x 36, x 37, x 38, x 39, x 40, x 41, x 42, x 43, x 44, x 45, x 46, x 47, x 48, x 49, x 50, x 51, x 52, x 53, x 54, x 55, x 56, x 57, x 58, x 59, x 60, x 61, x 62, x 63, x 64, x 65, x 66, x 67, x 68, x 69, x 70, x 71, x 72, x 73, x 74, x 75, x 76, x 77, x 78, x 79, .func (.func 95) #[] #[.pointer (some ⟨W2.heap.size, 0, none⟩), .pointer (some ⟨W2.heap.size + 1, 0, none⟩)], chunkV ⟨gc, 0, none⟩ y.1, x 82, x 83, x 84, x 85, x 86, x 87, x 88, x 89, x 90, x 91, x 92, x 93, x 94, x 95, x 96, x 97, x 98, x 99, x 100], defers := [] } : Act)) ?hAx ?assign ?body ?done ?stop
         case hKb =>
          intro W' l2 o o' hl2 ho hc hw k hk
          have := HZ.out
          exact World.putObj_heap_other (by rcases hk with rfl | rfl <;> omega)
         case hI =>
          rintro s X Y row ⟨h1, h2, h3⟩ hg hr
          exact ⟨h1, h2.grown hg (fun r e => by have h4 := hr r e; exact ⟨by have := h4.1; have := HW3.out; omega, h4.2⟩), Nat.le_trans h3 hg.size⟩
         case hIx =>
          rintro c2 s X Y row ⟨rfl, h1, h2⟩ hg hr
          exact ⟨rfl, h1, h2.grown (H := b12 + 3) hg (fun r e => by have := (hr r e).1; have := HW3.out; omega) (by have := HX3.out.bd.b; omega) (fun D hD => by have := HX3.out.bd.d D hD; omega)⟩
         case hAx =>
          rintro y a' s X Y row h hg hr
          exact h
         case hseq =>
          intro l2 J Jx W hW hJ hJx hY h0
          refine (chunk1_in 2 (by omega) l2 W2.heap.size (W2.heap.size + 1) W.heap.size ⟨gc, 0, none⟩ m cur.length cc HM.out.1 HM5.out (ownNodes_C (HX3.out.t.hg.last HL9.out)).2.1 (fun k => k = W2.heap.size ∨ k = W2.heap.size + 1) (.inl rfl) (.inr rfl)
           (fun pre W => ∃ pre' : List { j : Nat // j < m }, pre'.map Subtype.val = pre ∧ J pre' W) (fun pre W => ∃ pre' : List { j : Nat // j < m }, pre'.map Subtype.val = pre ∧ Jx pre' W)
           (fun s X Y row ⟨pre', e, h⟩ hg hr => ⟨pre', e, hJ _ _ _ row h hg hr⟩) ?_ W (blk_below HS2.out hW) (blk_below HN2.out hW) ⟨[], rfl, h0⟩).mono ?_
          ·
           rintro j W1 ⟨pre', e1, hj⟩ hlt
           have hpl : pre'.length = j := by have := congrArg List.length e1; simpa using this
           obtain ⟨fn, tmps, asg, bd, hy, hR⟩ := hY pre' ⟨j, hlt⟩ W1 hj (by omega)
           refine ⟨fn, tmps, asg, bd, hy, hR.mono ?_⟩
           rintro e W2 (⟨rfl, h1, h2⟩ | ⟨rfl, h1⟩)
           ·
            exact .inl ⟨rfl, ⟨_, by rw [List.map_append, e1, List.range_succ]; rfl, h1⟩, h2⟩
           ·
            exact .inr ⟨rfl, ⟨_, by rw [List.map_append, e1, List.range_succ]; rfl, h1⟩⟩
          ·
           rintro e W2 ⟨hv, ⟨ys', e1, h1⟩ | ⟨j, hj, pre', e1, h1⟩⟩
           ·
            exact ⟨hv, .inl ⟨ys', e1, h1⟩⟩
           ·
            exact ⟨hv, .inr ⟨pre', trivial, h1⟩⟩
         case assign =>
          rintro l2 pre y W K hI hK
          gi_wp2
          exact hK _ _ (KeepsFrom.refl _ _) (fun k hk => rfl) hI rfl
         case body =>
          rintro l2 pre ⟨j, hj⟩ a' Wb hl2 - ⟨hok, hP, hz⟩ rfl hlen
          have hjl : 2 * j + 1 < cur.length := by have := HM.out.1; omega
          obtain ⟨na, ha⟩ : ∃ na, na = cur.getD (2 * j) zeroN := ⟨_, rfl⟩
          obtain ⟨nb, hb⟩ : ∃ nb, nb = cur.getD (2 * j + 1) zeroN := ⟨_, rfl⟩
          obtain ⟨ap, hap⟩ : ∃ ap, ap = (⟨gc, 0, none⟩ : Addr).add (2 * j * 3) := ⟨_, rfl⟩
          have hka : NodeK wd na := HH.out.n _ (by rw [ha]; have h1 : cur.getD (2 * j) zeroN = cur[2 * j]'(by omega) := (by simp [List.getD_eq_getElem?_getD, show 2 * j < cur.length by omega]); rw [h1]; exact List.getElem_mem _)
          have hkb : NodeK wd nb := HH.out.n _ (by rw [hb]; have h1 : cur.getD (2 * j + 1) zeroN = cur[2 * j + 1] := (by simp [List.getD_eq_getElem?_getD, hjl]); rw [h1]; exact List.getElem_mem _)
          have htw : twoV wd cur j = joinV wd na nb := by rw [ha, hb]; rfl
          have hto : twoOk cur j ↔ valU na.f1 + valU nb.f1 < 340282366920938463463374607431768211456 := by rw [ha, hb]; rfl
          have HT := fun (V : World) (hV : Below Wb.heap.size Wb V) => two_at' ((ownNodes_C ((hP.below hV).t.hg.last HL9.out)).2.2) j hjl na nb ha hb ap hap
          have hch : chunkV ⟨gc, 0, none⟩ j = .slice (some ap) 2 2 := by rw [hap]; rfl
          obtain ⟨kj, hkj⟩ := (join_ev wd na nb hka.u hkb.u).rounds
          have HT := aM' HT
          have HKA := aM' hka
          have HKB := aM' hkb
          have HTW := aM' htw
          have HTO := aM' hto
          have HOK := aM' hok
          have HP := aM' hP
          have HZZ := aM' hz
          have HLEN := aM' hlen
          have HKJ := aM' hkj
          dsimp only
          rw [hch]
          clear ha hb hap hka hkb htw hto hok hP hz hlen hch hjl hkj
          rcases hjn : joinI wd na nb with ⟨r1, r2, r3, r4⟩
          rw [hjn] at HKJ
          have HJN := aM' hjn
          clear hjn
          gi_wp2
          refine region_invIn (fun l a W => ∃ γx : Nat, a = ({ tmps := #[.int .i64 wd, .slice (some ad) ls.length c, .pointer (some ⟨w.heap.size, 0, none⟩), x 3, .pointer (some ⟨w.heap.size + 1, 0, none⟩), .pointer (some ⟨w.heap.size + 1 + 1, 0, none⟩), x 6, x 7, .slice (some ⟨gc, 0, none⟩) cur.length cc, x 9, x 10, .pointer (some ⟨δ, 0, none⟩), .pointer (some ⟨b12, 0, none⟩), .slice (some ap) 2 2, sel (l 11) (.pointer (some ⟨γx, 0, none⟩)) (x 14), sel (l 13) (.int .i64 r4) (x 15), x 16, x 17, x 18, x 19, x 20, x 21, x 22, x 23, x 24, x 25, x 26, x 27, x 28, x 29, x 30, x 31, x 32, x 33, x 34, x 35, x 36, x 37, x 38, x 39, x 40, x 41, x 42, x 43, x 44, x 45, x 46, x 47, x 48, x 49, x 50, x 51, x 52, x 53, x 54, x 55, x 56, x 57, x 58, x 59, x 60, x 61, x 62, x 63, x 64, x 65, x 66, x 67, x 68, x 69, x 70, x 71, x 72, x 73, x 74, x 75, x 76, x 77, x 78, x 79, .func (.func 95) #[] #[.pointer (some ⟨W2.heap.size, 0, none⟩), .pointer (some ⟨W2.heap.size + 1, 0, none⟩)], .slice (some ap) 2 2, sel (l 8) (.tuple #[.agg #[.string r1, .int .u64 r2, .int .u64 r3], .int .i64 r4]) (x 82), sel (l 0) (.int .i64 wd) (x 83), sel (l 1) (.slice (some ap) 2 2) (x 84), sel (l 2) (.pointer (some ap)) (x 85), sel (l 3) (.agg #[.string na.f0, .int .u64 na.f1.f0, .int .u64 na.f1.f1]) (x 86), sel (l 4) (.slice (some ap) 2 2) (x 87), sel (l 5) (.pointer (some (ap.add 3))) (x 88), sel (l 6) (.agg #[.string nb.f0, .int .u64 nb.f1.f0, .int .u64 nb.f1.f1]) (x 89), sel (l 7) (.tuple #[.agg #[.string r1, .int .u64 r2, .int .u64 r3], .int .i64 r4]) (x 90), sel (l 9) (.agg #[.string r1, .int .u64 r2, .int .u64 r3]) (x 91), sel (l 10) (.int .i64 r4) (x 92), x 93, x 94, x 95, x 96, x 97, x 98, x 99, x 100], defers := [] } : Act) ∧ Pr4 Wb W ⟨r1, ⟨r2, r3⟩⟩ l γx) 14 rfl rfl (by kernel_rfl) ?h0 ?hend ?hstep
          case h0 => exact ⟨0, rfl, below_drew (Below.refl _ _), (fun h => by cases h), (fun h => by cases h)⟩
          case hstep =>
           refine rg_cons (rg_cons (rg_cons (rg_cons (rg_cons (rg_cons (rg_cons (rg_cons (rg_cons (rg_cons (rg_cons (rg_cons (rg_cons (rg_cons (rg_nil) ?s0) ?s1) ?s2) ?s3) ?s4) ?s5) ?s6) ?s7) ?s8) ?s9) ?s10) ?s11) ?s12) ?s13
           case s0 =>
            refine rgi_step rfl ?_
            rintro l a W ⟨γx, rfl, hI⟩ hl hd
            clear hd
            have x0 := blk_cell (HP.out.below hI.hB).t.bx.h2 0
            simp at x0
            refine rgi_val (v := .int .i64 wd) (w' := W) (fun _ => trivial) rfl (fun _ h => by cases h) (by go_simp) ?_
            refine ⟨γx, ?_, ?_⟩
            ·
             simp only [Act.put, List.setIfInBounds_toArray, List.set_cons_zero, List.set_cons_succ]; rfl
            ·
             exact hI.other _ (by decide) (by decide) (Below.refl _ _)
           case s1 =>
            refine rgi_step rfl ?_
            rintro l a W ⟨γx, rfl, hI⟩ hl hd
            clear hd
            refine rgi_val (v := .slice (some ap) 2 2) (w' := W) (fun _ => trivial) rfl (fun _ h => by cases h) (by go_simp) ?_
            refine ⟨γx, ?_, ?_⟩
            ·
             simp only [Act.put, List.setIfInBounds_toArray, List.set_cons_zero, List.set_cons_succ]; rfl
            ·
             exact hI.other _ (by decide) (by decide) (Below.refl _ _)
           case s2 =>
            refine rgi_step rfl ?_
            rintro l a W ⟨γx, rfl, hI⟩ hl hd
            have d1 := hd 1 (by decide)
            clear hd
            refine rgi_val (v := .pointer (some ap)) (w' := W) (fun _ => trivial) rfl (fun _ h => by cases h) (by go_simp) ?_
            refine ⟨γx, ?_, ?_⟩
            ·
             simp only [Act.put, List.setIfInBounds_toArray, List.set_cons_zero, List.set_cons_succ]; rfl
            ·
             exact hI.other _ (by decide) (by decide) (Below.refl _ _)
           case s3 =>
            refine rgi_step rfl ?_
            rintro l a W ⟨γx, rfl, hI⟩ hl hd
            have d2 := hd 2 (by decide)
            clear hd
            obtain ⟨⟨x0, x1, x2⟩, y0, y1, y2⟩ := HT.out W hI.hB
            refine rgi_val (v := .agg #[.string na.f0, .int .u64 na.f1.f0, .int .u64 na.f1.f1]) (w' := W) (fun _ => trivial) rfl (fun _ h => by cases h) (by go_simp) ?_
            refine ⟨γx, ?_, ?_⟩
            ·
             simp only [Act.put, List.setIfInBounds_toArray, List.set_cons_zero, List.set_cons_succ]; rfl
            ·
             exact hI.other _ (by decide) (by decide) (Below.refl _ _)
           case s4 =>
            refine rgi_step rfl ?_
            rintro l a W ⟨γx, rfl, hI⟩ hl hd
            clear hd
            refine rgi_val (v := .slice (some ap) 2 2) (w' := W) (fun _ => trivial) rfl (fun _ h => by cases h) (by go_simp) ?_
            refine ⟨γx, ?_, ?_⟩
            ·
             simp only [Act.put, List.setIfInBounds_toArray, List.set_cons_zero, List.set_cons_succ]; rfl
            ·
             exact hI.other _ (by decide) (by decide) (Below.refl _ _)
           case s5 =>
            refine rgi_step rfl ?_
            rintro l a W ⟨γx, rfl, hI⟩ hl hd
            have d4 := hd 4 (by decide)
            clear hd
            refine rgi_val (v := .pointer (some (ap.add 3))) (w' := W) (fun _ => trivial) rfl (fun _ h => by cases h) (by go_simp) ?_
            refine ⟨γx, ?_, ?_⟩
            ·
             simp only [Act.put, List.setIfInBounds_toArray, List.set_cons_zero, List.set_cons_succ]; rfl
            ·
             exact hI.other _ (by decide) (by decide) (Below.refl _ _)
           case s6 =>
            refine rgi_step rfl ?_
            rintro l a W ⟨γx, rfl, hI⟩ hl hd
            have d5 := hd 5 (by decide)
            clear hd
            obtain ⟨⟨x0, x1, x2⟩, y0, y1, y2⟩ := HT.out W hI.hB
            refine rgi_val (v := .agg #[.string nb.f0, .int .u64 nb.f1.f0, .int .u64 nb.f1.f1]) (w' := W) (fun _ => trivial) rfl (fun _ h => by cases h) (by go_simp) ?_
            refine ⟨γx, ?_, ?_⟩
            ·
             simp only [Act.put, List.setIfInBounds_toArray, List.set_cons_zero, List.set_cons_succ]; rfl
            ·
             exact hI.other _ (by decide) (by decide) (Below.refl _ _)
           case s7 =>
            refine rgi_step rfl ?_
            rintro l a W ⟨γx, rfl, hI⟩ hl hd
            have d0 := hd 0 (by decide)
            have d3 := hd 3 (by decide)
            have d6 := hd 6 (by decide)
            clear hd
            refine rgi_call (fun _ => trivial) rfl rfl (fun _ h => by cases h) (by go_simp; exact ⟨rfl, rfl⟩) ?_
            refine (CallsIn.inRound l2 (callsIn_wide.2 (node_Join.calls kj wd na.f0 na.f1.f0 na.f1.f1 nb.f0 nb.f1.f0 nb.f1.f1 r1 r2 r3 r4 W (HK.out.below (HP.out.t.bx.hB.trans (hI.hB.mono HP.out.t.bx.hB.size))).1 HKJ.out))).mono ?_
            rintro xx W' ⟨rfl, hb⟩
            refine ⟨_, rfl, γx, ?_, ?_⟩
            ·
             simp only [Act.put, List.setIfInBounds_toArray, List.set_cons_zero, List.set_cons_succ]; rfl
            ·
             exact hI.other 7 (by decide) (by decide) hb
           case s8 =>
            refine rgi_step rfl ?_
            rintro l a W ⟨γx, rfl, hI⟩ hl hd
            have d7 := hd 7 (by decide)
            clear hd
            refine rgi_val (v := .tuple #[.agg #[.string r1, .int .u64 r2, .int .u64 r3], .int .i64 r4]) (w' := W) (fun _ => trivial) rfl (fun _ h => by cases h) (by go_simp) ?_
            refine ⟨γx, ?_, ?_⟩
            ·
             simp only [Act.put, List.setIfInBounds_toArray, List.set_cons_zero, List.set_cons_succ]; rfl
            ·
             exact hI.other _ (by decide) (by decide) (Below.refl _ _)
           case s9 =>
            refine rgi_step rfl ?_
            rintro l a W ⟨γx, rfl, hI⟩ hl hd
            have d8 := hd 8 (by decide)
            clear hd
            refine rgi_val (v := .agg #[.string r1, .int .u64 r2, .int .u64 r3]) (w' := W) (fun _ => trivial) rfl (fun _ h => by cases h) (by go_simp) ?_
            refine ⟨γx, ?_, ?_⟩
            ·
             simp only [Act.put, List.setIfInBounds_toArray, List.set_cons_zero, List.set_cons_succ]; rfl
            ·
             exact hI.other _ (by decide) (by decide) (Below.refl _ _)
           case s10 =>
            refine rgi_step rfl ?_
            rintro l a W ⟨γx, rfl, hI⟩ hl hd
            have d8 := hd 8 (by decide)
            clear hd
            refine rgi_val (v := .int .i64 r4) (w' := W) (fun _ => trivial) rfl (fun _ h => by cases h) (by go_simp) ?_
            refine ⟨γx, ?_, ?_⟩
            ·
             simp only [Act.put, List.setIfInBounds_toArray, List.set_cons_zero, List.set_cons_succ]; rfl
            ·
             exact hI.other _ (by decide) (by decide) (Below.refl _ _)
           case s11 =>
            refine rgi_step rfl ?_
            rintro l a W ⟨γx, rfl, hI⟩ hl hd
            clear hd
            refine rgi_val (v := .pointer (some ⟨W.heap.size, 0, none⟩)) (w' := W.alloc (.cells #[.string ⟨#[]⟩, .int .u64 0, .int .u64 0] 46 (0, 0))) (fun _ => trivial) rfl (fun _ h => by cases h) (by go_simp) ?_
            refine ⟨W.heap.size, ?_, ?_⟩
            ·
             simp only [Act.put, List.setIfInBounds_toArray, List.set_cons_zero, List.set_cons_succ]; rfl
            ·
             exact hI.alloc hl
           case s12 =>
            refine rgi_step rfl ?_
            rintro l a W ⟨γx, rfl, hI⟩ hl hd
            have d11 := hd 11 (by decide)
            have d9 := hd 9 (by decide)
            clear hd
            have hg := (hI.hg d11).2
            rw [show l 12 = false from hl, if_neg (by decide)] at hg
            have y0 := blk_cell hg 0
            have y1 := blk_cell hg 1
            have y2 := blk_cell hg 2
            have yf := fun i => blk_frozen hg i
            simp at y0 y1 y2
            refine rgi_skip (fun _ => trivial) rfl (fun _ h => by cases h) (by go_simp; rfl) ?_
            refine ⟨γx, ?_, ?_⟩
            ·
             simp only [Act.put, List.setIfInBounds_toArray, List.set_cons_zero, List.set_cons_succ]; rfl
            ·
             exact hI.store d11 hl
           case s13 =>
            refine rgi_step rfl ?_
            rintro l a W ⟨γx, rfl, hI⟩ hl hd
            have d10 := hd 10 (by decide)
            clear hd
            refine rgi_val (v := .int .i64 r4) (w' := W) (fun _ => trivial) rfl (fun _ h => by cases h) (by go_simp) ?_
            refine ⟨γx, ?_, ?_⟩
            ·
             simp only [Act.put, List.setIfInBounds_toArray, List.set_cons_zero, List.set_cons_succ]; rfl
            ·
             exact hI.other _ (by decide) (by decide) (Below.refl _ _)
          case hend =>
           rintro l a W ⟨γx, rfl, hI⟩ hall
           have e0 := hall 0 (by decide)
           have e1 := hall 1 (by decide)
           have e2 := hall 2 (by decide)
           have e3 := hall 3 (by decide)
           have e4 := hall 4 (by decide)
           have e5 := hall 5 (by decide)
           have e6 := hall 6 (by decide)
           have e7 := hall 7 (by decide)
           have e8 := hall 8 (by decide)
           have e9 := hall 9 (by decide)
           have e10 := hall 10 (by decide)
           have e11 := hall 11 (by decide)
           have e12 := hall 12 (by decide)
           have e13 := hall 13 (by decide)
           clear hall
           have hD := hI.hg e11
           rw [if_pos e12] at hD
           obtain ⟨hγ, hγc⟩ := hD
           have hBb := hI.hB
           have hP5 := HP.out.below hBb
           have HBb := aM' hBb
           have HP5 := aM' hP5
           have HG := aM' hγ
           have HGC := aM' hγc
           clear hI hγ hγc hBb hP5 HP
           simp only [e0, e1, e2, e3, e4, e5, e6, e7, e8, e9, e10, e11, e12, e13, sel_true]
           clear e0 e1 e2 e3 e4 e5 e6 e7 e8 e9 e10 e11 e12 e13
           obtain ⟨dn, hdn⟩ : ∃ dn, (pre.map fun y => twoV wd cur y.1) = dn := ⟨_, rfl⟩
           rw [hdn] at HP5
           have hdl : dn.length = pre.length := by rw [← hdn]; simp
           have HDN := aM' hdn
           have HDL := aM' hdl
           obtain ⟨A12, c12, hbx, hown0⟩ := HP5.out.b
           have HBX := aM' hbx
           have HOWN0 := aM' hown0
           have hbd := HP5.out.bd
           have HBD := aM' hbd
           have hw3 := HW3.out
           have hz := HZ.out
           have hzz := HZZ.out
           have hbz := HBb.out.size
           have hlt := HP5.out.lt
           have HSZ := aM' (show b12 < W.heap.size ∧ b12 + 3 ≤ Wb.heap.size ∧ Wb.heap.size ≤ W.heap.size ∧ W2.heap.size = b12 + 1 ∧ w3.heap.size = b12 + 3 from ⟨hlt, by omega, hbz, hz.2, hw3⟩)
           have y12 : W.cell? ⟨b12, 0, none⟩ = some (.slice A12 dn.length c12) := blk_cell hbx 0
           have y0 : W.cell? ⟨γx, 0, none⟩ = some (.string r1) := blk_cell HGC.out 0
           have y1 : W.cell? ⟨γx, 1, none⟩ = some (.int .u64 r2) := blk_cell HGC.out 1
           have y2 : W.cell? ⟨γx, 2, none⟩ = some (.int .u64 r3) := blk_cell HGC.out 2
           clear hdn hdl hbx hown0 hbd hw3 hz hzz hbz hlt
           by_cases h0 : r4 = 0
           ·
            subst h0
            have hroom : valU na.f1 + valU nb.f1 < 340282366920938463463374607431768211456 := by
             rcases Int.lt_or_le (valU na.f1 + valU nb.f1) 340282366920938463463374607431768211456 with h | h
             ·
              exact h
             ·
              have := joinI_full HKA.out HKB.out (by omega)
              rw [HJN.out] at this
              simp at this
            have hjv : (⟨r1, ⟨r2, r3⟩⟩ : SNode) = joinV wd na nb := by
             have := joinI_room HKA.out HKB.out hroom
             rw [HJN.out] at this
             simp only [Prod.mk.injEq] at this
             obtain ⟨e1, e2, e3, -⟩ := this
             rw [e1, e2, e3]
            have HRM := aM' hroom
            have HJV := aM' hjv
            clear hroom hjv
            gi_upto_region 25 with (fail)
            refine wpIn_region_list ?_
            refine li_val (v := .slice A12 dn.length c12) (w' := W) rfl (fun _ => trivial) (fun _ h => by cases h) (by go_simp; done) ?_
            refine li_val (v := .agg #[.string r1, .int .u64 r2, .int .u64 r3]) (w' := W) rfl (fun _ => trivial) (fun _ h => by cases h) (by go_simp; done) ?_
            refine li_val (v := .slice (some ⟨W.heap.size, 0, none⟩) 1 1) (w' := W.alloc (.cells #[.string r1, .int .u64 r2, .int .u64 r3] 46 (0, 0))) rfl (fun _ => trivial) (fun _ h => by cases h) (by go_simp; done) ?_
            refine wpListIn_append_own _ rfl _ _ 43 rfl (b12 + 3) 46 i0 (.agg #[(.string ⟨#[]⟩), (.int .u64 0), (.int .u64 0)]) 3 32 Tryd.underlying43 hi hz0 hz1 hz2 rfl (by decide) (.slice A12 dn.length c12) dn.length (cellsN dn) rfl ?own ⟨W.heap.size, 0, none⟩ 1 1 [.string r1, .int .u64 r2, .int .u64 r3] rfl rfl ?cells ?one ?b1 ?b2 ?b3 ?_
            (case own => exact ownB HOWN0.out (below_alloc (Below.refl _ _) _))
            (case cells => exact World.news_of_block (blk_new W _))
            (case one => intro u hu; simp at hu; rcases hu with rfl | rfl | rfl <;> rfl)
            (case b1 => have h1 := HLEN.out; have h2 := HDL.out; have := HM5.out; unfold maxLen; omega)
            (case b2 => have h1 := HLEN.out; have h2 := HDL.out; have := HM5.out; omega)
            (case b3 => rw [World.size_alloc]; have := HSZ.out; omega)
            intro v' w7 hown hgr hnil
            obtain ⟨g, cap, rfl, -, hg7⟩ := hown.form (by omega)
            have HOWN := aM' hown
            have HGR := aM' hgr
            have hne : ∀ e, (Value.slice A12 dn.length c12).ownBlock = some e → b12 + 3 ≤ e := fun e he => (HOWN0.out.lt e he).1
            have HNE := aM' hne
            have hz6 := (hgr.block b12 (by rw [World.size_alloc]; have := HSZ.out; omega) (fun e => by have := hne _ e.symm; omega)).trans (blk_alloc HBX.out _)
            have z6 : w7.cell? ⟨b12, 0, none⟩ = some (.slice A12 dn.length c12) := blk_cell hz6 0
            have zf : ∀ i, w7.frozen? ⟨b12, i, none⟩ = false := fun i => blk_frozen hz6 i
            clear hown hgr hz6 hnil hne hg7
            refine li_skip (w' := w7.setCell ⟨b12, 0, none⟩ (.slice (some ⟨g, 0, none⟩) (dn.length + 1) cap)) rfl (fun _ => trivial) (fun _ h => by cases h) (by go_simp; first | done | rfl) ?_
            gi_wp2
            have hW1 : ∀ k, k < Wb.heap.size → (W.alloc (.cells #[.string r1, .int .u64 r2, .int .u64 r3] 46 (0, 0))).heap[k]? = Wb.heap[k]? := fun k hk => by
             rw [(below_alloc (Below.refl W.heap.size W) _).block k (lL' hk HSZ.out.2.2.1)]
             exact HBb.out.block k hk
            have hend : ∀ k, k < Wb.heap.size → (Value.slice A12 dn.length c12).ownBlock ≠ some k → k ≠ b12 → (w7.setCell ⟨b12, 0, none⟩ (.slice (some ⟨g, 0, none⟩) (dn.length + 1) cap)).heap[k]? = Wb.heap[k]? := fun k hk h1 h2 =>
             (Below.heap_setCell _ _ _ _ h2).trans ((HGR.out.block k (by rw [World.size_alloc]; have := HSZ.out; omega) (fun e => h1 e.symm)).trans (hW1 k hk))
            have hsz : Wb.heap.size ≤ w7.heap.size := by have h1 := HGR.out.size; rw [World.size_alloc] at h1; have := HSZ.out; omega
            refine ⟨⟨by simpa using hsz, fun k o hk h0 ho => ?_⟩, ?_, ?_, ?_, ?_⟩
            ·
             rw [hend k (Array.getElem?_eq_some_iff.1 h0).1 (fun e => ?_) (by have := HSZ.out; omega)]
             ·
              exact h0
             ·
              obtain ⟨cs, h3⟩ := own_cells HOWN0.out e
              rw [HBb.out.block k (Array.getElem?_eq_some_iff.1 h0).1] at h3
              rw [h0] at h3
              cases h3
              cases ho
            ·
             intro k hk
             refine hend k (by have := HSZ.out; rcases hk with rfl | rfl <;> omega) (fun e => by have := HNE.out _ e; have := HSZ.out; rcases hk with rfl | rfl <;> omega) (by have := HSZ.out; rcases hk with rfl | rfl <;> omega)
            ·
             intro y hy
             rcases List.mem_append.1 hy with hy | hy
             ·
              exact HOK.out y hy
             ·
              obtain rfl := List.mem_singleton.1 hy
              exact HTO.out.2 HRM.out
            ·
             have hm := (HP5.out.below (below_alloc (Below.refl _ _) (.cells #[.string r1, .int .u64 r2, .int .u64 r3] 46))).more (x := ⟨r1, ⟨r2, r3⟩⟩) (blk_alloc HBX.out _) (ownB HOWN0.out (below_alloc (Below.refl _ _) _)) HGR.out HOWN.out
             rw [List.map_append, HDN.out]
             have hx : (List.map (fun y : { j : Nat // j < m } => twoV wd cur y.1) [⟨j, hj⟩]) = [⟨r1, ⟨r2, r3⟩⟩] := by rw [HJV.out, ← HTW.out]; rfl
             rw [hx]
             exact hm
            ·
             exact Nat.le_trans HZZ.out (by simpa using hsz)
           ·
            have b1 : (r4 != 0) = true := by simp [h0]
            have hroom : ¬ valU na.f1 + valU nb.f1 < 340282366920938463463374607431768211456 := fun h => by
             have := joinI_room HKA.out HKB.out h
             rw [HJN.out] at this
             simp only [Prod.mk.injEq] at this
             exact h0 this.2.2.2
            have h10 : r4 = 10 := by
             have := joinI_full HKA.out HKB.out hroom
             rw [HJN.out] at this
             simp only [Prod.mk.injEq] at this
             exact this.2.2.2
            have HRM := aM' hroom
            clear hroom
            have y4 : W.cell? ⟨w.heap.size + 1, 0, none⟩ = some (.pointer none) := blk_cell HP5.out.t.bx.h4 0
            have f4 : ∀ i, W.frozen? ⟨w.heap.size + 1, i, none⟩ = false := fun i => blk_frozen HP5.out.t.bx.h4 i
            have y5 : W.cell? ⟨w.heap.size + 1 + 1, 0, none⟩ = some (.int .i64 0) := blk_cell HP5.out.t.bx.h5 0
            have f5 : ∀ i, W.frozen? ⟨w.heap.size + 1 + 1, i, none⟩ = false := fun i => blk_frozen HP5.out.t.bx.h5 i
            gi_wp2
            have hNE : NxE w ds ((W.setCell ⟨w.heap.size + 1, 0, none⟩ (.pointer none)).setCell ⟨w.heap.size + 1 + 1, 0, none⟩ (.int .i64 10)) := NxE.made HP5.out.t
            refine ⟨⟨by have := HSZ.out; simpa using this.2.2.1, fun k o hk h0 ho => ?_⟩, rfl, ⟨j, ⟨hj, by simp⟩, fun h => absurd (HTO.out.1 h) (by have := HRM.out; omega)⟩, by first | exact hNE | (rw [h10]; exact hNE)⟩
            have := HBD.out.b
            have := HSZ.out
            exact (Below.heap_setCell _ _ _ _ (by show k ≠ w.heap.size + 1 + 1; omega)).trans ((Below.heap_setCell _ _ _ _ (by show k ≠ w.heap.size + 1; omega)).trans ((HBb.out.block k (Array.getElem?_eq_some_iff.1 h0).1).trans h0))
         case done =>
          rintro D ys W hD hys ⟨hok, hP, hz⟩ hdf
          have hdn : (ys.map fun y => twoV wd cur y.1) = pairsV wd cur := by
           rw [pairsV_range wd m cur HM.out.1, ← hys, List.map_map]; rfl
          have hpo : pairsOk cur = true := (pairsOk_range m cur HM.out.1).2 (fun j hj => by
           have h1 : j ∈ ys.map Subtype.val := by rw [hys]; exact List.mem_range.2 hj
           obtain ⟨y, hy, rfl⟩ := List.mem_map.1 h1
           exact hok y hy)
          rw [hdn] at hP
          have hpl : (pairsV wd cur).length = m := pairsV_len wd m cur HM.out.1
          obtain ⟨A12, c12, hbx, hown⟩ := hP.b
          rw [hpl] at hbx hown
          obtain ⟨g, cap, hv, -, -⟩ := hown.form HM.out.2
          cases hv
          have HNX := aM' (HH.out.next HM.out.1 HM.out.2 hpo hP hown (by have := HW3.out; omega) hdf)
          have y12 : W.cell? ⟨b12, 0, none⟩ = some (.slice (some ⟨g, 0, none⟩) m c12) := blk_cell hbx 0
          have HPL := aM' hpl
          clear hok hP hz hdn hpo hpl hbx hown hdf hys hD
          dsimp only
          go_wp2
          refine ⟨?_, ?_⟩
          ·
           rw [HI.out]
           refine ⟨fun i => if i = 12 then .pointer (some ⟨b12, 0, none⟩) else if i = 80 then .func (.func 95) #[] #[.pointer (some ⟨W2.heap.size, 0, none⟩), .pointer (some ⟨W2.heap.size + 1, 0, none⟩)] else if i = 100 then .slice (some ⟨g, 0, none⟩) m c12 else x i, gs ++ [(gc, cc)], done ++ [cur], D :: ds, pairsV wd cur, g, c12, some ⟨γ2, 0, none⟩, κ2, ?_, HNX.out⟩
           rw [HPL.out]
           rfl
          ·
           show m < cur.length
           have := HM.out
           omega
         case stop =>
          rintro D c2 pre W hD - ⟨rfl, ⟨y, hy, hno⟩, hE⟩ hdf
          have hpo : pairsOk cur = false := by
           cases h : pairsOk cur with
           | false => rfl
           | true => exact absurd ((pairsOk_range m cur HM.out.1).1 h y.1 y.2) hno
          have htot : ¬ totL (ls.map (leafNodeI wd)) < 340282366920938463463374607431768211456 := by
           rw [← HH.out.s]
           exact pairsOk_tot m cur HM.out.1 HH.out.n hpo
          have HE := aM' hE
          have HDF := aM' hdf
          have HTOT := aM' htot
          have HDB := aM' hD
          clear hE hdf htot hD hno hpo
          gi_wp2
          refine newErrD (ds := D :: ds) HE.out.hB (List.nodup_cons.2 ⟨fun h => by have := HX3.out.bd.d D h; have := HDB.out; have := HW3.out; omega, HH.out.t.dn⟩) (fun D' hD' => ?_) (fun D' hD' => ?_) rfl rfl HE.out.h4 HE.out.h5 (newI_full HW.out HP.out HALL.out (by have := HTOT.out; omega)) (by decide)
          ·
           rcases List.mem_cons.1 hD' with rfl | hD'
           ·
            exact HDF.out
           ·
            exact HE.out.hd D' hD'
          ·
           rcases List.mem_cons.1 hD' with rfl | hD'
           ·
            have := HDB.out; have := HW3.out; have := HX3.out.bd.b; omega
           ·
            exact HH.out.d D' hD'
end Go.Proofs.YtfcodmdckcihmaaDoor.P
namespace Go.Proofs.YtfcodmdckcihmaaDoor.P
open Go.RowKit Go.Proofs.YtfcodmdckcihmaaDoorW.PrintWords Go.Proofs.YtfcodmdckcihmaaDoorW.PrintLast Go.Proofs.YtfcodmdckcihmaaDoorW.PrintMore
set_option linter.unusedVariables false
set_option linter.unusedSimpArgs false
set_option linter.unnecessarySimpa false
theorem TreeOwn.far {base a gl cl : Nat} {VV : Value} {gs : List RowG} {T : STree} {W W' : World} (h : TreeOwn base W a T gl cl VV gs) (hk : ∀ k, base ≤ k → k < W.heap.size → W'.heap[k]? = W.heap[k]?) : TreeOwn base W' a T gl cl VV gs := by
 have hg := h.hl.lt gl rfl
 exact ⟨(hk a h.lo (blk_lt h.ht)).trans h.ht, own_keep h.hl (hk gl hg.1 hg.2), ownAny_keep h.hv (fun g hgg => hk g (h.hv.lt g hgg).1 (h.hv.lt g hgg).2), h.hg.keep (fun k hm => hk k (h.hg.lt k hm).1 (h.hg.lt k hm).2), h.ap, h.av, h.lo⟩
theorem cellsV_get : ∀ (i n : Nat) (gs : List RowG) (rs : List (List SNode)) (p : RowG) (r : List SNode), gs[n]? = some p → rs[n]? = some r → (cellsV i gs rs)[n * 2]? = some (rowV p r) ∧ (cellsV i gs rs)[n * 2 + 1]? = some (.int .i64 ((i + n : Nat) : Int))
 | i, n, [], rs, p, r, h, _ => by simp at h
 | i, n, q :: gs, [], p, r, _, h => by simp at h
 | i, 0, q :: gs, s :: rs, p, r, h1, h2 => by
  obtain rfl := Option.some.inj h1
  obtain rfl := Option.some.inj h2
  exact ⟨rfl, rfl⟩
 | i, n + 1, q :: gs, s :: rs, p, r, h1, h2 => by
  have := cellsV_get (i + 1) n gs rs p r (by simpa using h1) (by simpa using h2)
  rw [cellsV, show (n + 1) * 2 = n * 2 + 2 by omega]
  simp only [List.getElem?_cons_succ]
  refine ⟨this.1, ?_⟩
  rw [this.2, show i + 1 + n = i + (n + 1) by omega]
theorem OwnRows.get {W : World} {base : Nat} : ∀ {gs : List RowG} {rs : List (List SNode)} {n : Nat} {r : List SNode}, OwnRows W base gs rs → rs[n]? = some r → ∃ p, gs[n]? = some p ∧ W.ownsRow base 46 3 (rowV p r) r.length (cellsN r)
 | [], [], n, r, _, h => by simp at h
 | p :: gs, s :: rs, 0, r, h, hr => by
  obtain rfl := Option.some.inj hr
  exact ⟨p, rfl, h.1⟩
 | p :: gs, s :: rs, n + 1, r, h, hr => by
  obtain ⟨q, h1, h2⟩ := h.2.get (n := n) (by simpa using hr)
  exact ⟨q, by simpa using h1, h2⟩
theorem TreeOwn.read {base a gl cl : Nat} {VV : Value} {gs : List RowG} {T : STree} {W : World} (h : TreeOwn base W a T gl cl VV gs) (hl : 1 ≤ T.leaves.length ∧ T.leaves.length ≤ 1024) (hv : 1 ≤ T.rows.length ∧ T.rows.length ≤ 11) (hr : ∀ r ∈ T.rows, 1 ≤ r.length ∧ r.length ≤ 1024) : TreeR a T W := by
 obtain ⟨q1, q2, q3⟩ := ownLeaves_C h.hl
 obtain ⟨gv, cv, hvv, hbb, hlt⟩ := h.hv.form hv.1
 have ht := h.ht
 rw [hvv] at ht
 have hcap : T.rows.length ≤ cv := by
  rcases h.hv.2 with ⟨_, h2⟩ | ⟨g', cap', cur, h1, _, _, h2, _⟩
  ·
   omega
  ·
   rw [hvv] at h1; cases h1; exact h2
 have hcell := h.hv.cells (g := gv) (by rw [hvv]; rfl)
 refine ⟨some ⟨gl, 0, none⟩, cl, ⟨gv, 0, none⟩, cv, ht, q2, q3, hl.1, hl.2, hcap, hv.1, hv.2, fun i hi => ?_⟩
 obtain ⟨p, hp, ho⟩ := h.hg.get (n := i) (List.getElem?_eq_getElem hi)
 obtain ⟨c1, c2⟩ := cellsV_get 0 i gs T.rows p T.rows[i] hp (List.getElem?_eq_getElem hi)
 obtain ⟨r1, r2, r3⟩ := ownNodes_C ho
 have hm := hr T.rows[i] (List.getElem_mem hi)
 refine ⟨⟨p.1, 0, none⟩, p.2, hcell _ _ c1, ?_, r2, r3, hm⟩
 have := hcell _ _ c2
 rw [Nat.zero_add] at this
 have ea : ∀ n, (⟨gv, 0, none⟩ : Addr).add n = ⟨gv, n, none⟩ := fun n => by unfold Addr.add; split <;> simp_all
 rw [ea] at this ⊢
 exact this
theorem levels_ok {wd : Int} {ls : List SLeaf} (hk : NewOk wd ls) (hn : ls.length ≤ 1024) : (1 ≤ (treeT wd ls).rows.length ∧ (treeT wd ls).rows.length ≤ 11) ∧ (∀ r ∈ (treeT wd ls).rows, 1 ≤ r.length ∧ r.length ≤ 1024) ∧ 1 ≤ ls.length := by
 have h : (treeT wd ls).rows = levelsV wd ls.length.log2 (ls.map (leafNodeI wd)) := rfl
 have hp := hk.p
 have hK : ls.length.log2 ≤ 10 := by
  rcases Nat.lt_or_ge 10 ls.length.log2 with h1 | h1
  ·
   have h2 := Nat.pow_le_pow_right (n := 2) (by decide) (show 11 ≤ ls.length.log2 by omega)
   omega
  ·
   exact h1
 rw [h, levelsV_len]
 refine ⟨⟨by omega, by omega⟩, fun r hr => ?_, by have := Nat.two_pow_pos ls.length.log2; omega⟩
 obtain ⟨i, hi, rfl⟩ := List.getElem_of_mem hr
 have hi2 : i ≤ ls.length.log2 := by rw [levelsV_len] at hi; omega
 have e := levelsV_get wd ls.length.log2 i (ls.map (leafNodeI wd)) hi2
 rw [List.getElem?_eq_getElem hi] at e
 rw [Option.some.inj e, (up_ok (K := ls.length.log2) (by rw [List.length_map]; exact hk.p) hk.k hk.t i hi2).1]
 have h1 := Nat.two_pow_pos (ls.length.log2 - i)
 have h2 : 2 ^ (ls.length.log2 - i) ≤ 2 ^ ls.length.log2 := Nat.pow_le_pow_right (by decide) (by omega)
 omega
theorem TreeOwn.readT {base a gl cl : Nat} {VV : Value} {gs : List RowG} {wd : Int} {ls : List SLeaf} {W : World} (h : TreeOwn base W a (treeT wd ls) gl cl VV gs) (hk : NewOk wd ls) (hn : ls.length ≤ 1024) : TreeR a (treeT wd ls) W := by
 obtain ⟨h1, h2, h3⟩ := levels_ok hk hn
 exact h.read ⟨h3, hn⟩ h1 h2
end Go.Proofs.YtfcodmdckcihmaaDoor.P
namespace Go.Proofs.YtfcodmdckcihmaaDoor.P
open Go.RowKit Go.Proofs.YtfcodmdckcihmaaDoorW.PrintWords Go.Proofs.YtfcodmdckcihmaaDoorW.PrintLast Go.Proofs.YtfcodmdckcihmaaDoorW.PrintMore
set_option linter.unusedVariables false
set_option linter.unusedSimpArgs false
set_option linter.unnecessarySimpa false
theorem own_put {w : World} {base g n cap size : Nat} {e : TypeId} {xs : List Value} (h : w.ownsRow base e size (.slice (some ⟨g, 0, none⟩) n cap) n xs) (i : Nat) (v : Value) : (w.setCell ⟨g, i, none⟩ v).ownsRow base e size (.slice (some ⟨g, 0, none⟩) n cap) n (xs.set i v) := by
 obtain ⟨hlen, h⟩ := h
 refine ⟨by rw [List.length_set]; exact hlen, ?_⟩
 rcases h with ⟨h, _⟩ | ⟨g', cap', cur, hv, hb, hg, hcap, hmax, hsz, htk⟩
 ·
  cases h
 ·
  cases hv
  exact .inr ⟨_, _, cur.setIfInBounds i v, rfl, hb, blk_put hg i v rfl, hcap, hmax, by simpa using hsz, by rw [Array.toList_setIfInBounds, List.take_set, htk]⟩
theorem cellsL_set (x : SLeaf) : ∀ (l : List SLeaf) (p : Nat), p < l.length → (((((cellsL l).set (p * 5) (.bool x.f0)).set (p * 5 + 1) (.string x.f1)).set (p * 5 + 2) (.string x.f2)).set (p * 5 + 3) (.int .u64 x.f3.f0)).set (p * 5 + 4) (.int .u64 x.f3.f1) = cellsL (l.set p x)
 | y :: l, 0, _ => rfl
 | y :: l, p + 1, h => by
  have ih := cellsL_set x l p (by simpa using h)
  rw [List.set_cons_succ, cellsL, cellsL, ← ih, show (p + 1) * 5 = p * 5 + 1 + 1 + 1 + 1 + 1 by omega]
  simp only [List.set_cons_succ, show p * 5 + 1 + 1 + 1 + 1 + 1 + 1 = (p * 5 + 1) + 1 + 1 + 1 + 1 + 1 by omega, show p * 5 + 1 + 1 + 1 + 1 + 1 + 2 = (p * 5 + 2) + 1 + 1 + 1 + 1 + 1 by omega, show p * 5 + 1 + 1 + 1 + 1 + 1 + 3 = (p * 5 + 3) + 1 + 1 + 1 + 1 + 1 by omega, show p * 5 + 1 + 1 + 1 + 1 + 1 + 4 = (p * 5 + 4) + 1 + 1 + 1 + 1 + 1 by omega]
theorem cellsN_set (x : SNode) : ∀ (l : List SNode) (p : Nat), p < l.length → (((cellsN l).set (p * 3) (.string x.f0)).set (p * 3 + 1) (.int .u64 x.f1.f0)).set (p * 3 + 2) (.int .u64 x.f1.f1) = cellsN (l.set p x)
 | y :: l, 0, _ => rfl
 | y :: l, p + 1, h => by
  have ih := cellsN_set x l p (by simpa using h)
  rw [List.set_cons_succ, cellsN, cellsN, ← ih]
  simp only [List.set_cons_succ, show (p + 1) * 3 = p * 3 + 1 + 1 + 1 by omega, show p * 3 + 1 + 1 + 1 + 1 = (p * 3 + 1) + 1 + 1 + 1 by omega, show p * 3 + 1 + 1 + 1 + 2 = (p * 3 + 2) + 1 + 1 + 1 by omega]
theorem cellsV_set {r r' : List SNode} (hl : r'.length = r.length) : ∀ (i j : Nat) (gs : List RowG) (rs : List (List SNode)), rs[j]? = some r → cellsV i gs (rs.set j r') = cellsV i gs rs
 | i, j, [], rs, _ => by cases rs <;> rfl
 | i, j, p :: gs, [], h => by simp at h
 | i, 0, p :: gs, s :: rs, h => by
  obtain rfl := Option.some.inj h
  rw [List.set_cons_zero, cellsV, cellsV, hl]
 | i, j + 1, p :: gs, s :: rs, h => by
  rw [List.set_cons_succ, cellsV, cellsV, cellsV_set hl (i + 1) j gs rs (by simpa using h)]
theorem OwnRows.put {W W' : World} {base : Nat} : ∀ {gs : List RowG} {rs : List (List SNode)} {i : Nat} {p : RowG} {r' : List SNode}, OwnRows W base gs rs → (gs.map Prod.fst).Nodup → gs[i]? = some p → W'.ownsRow base 46 3 (rowV p r') r'.length (cellsN r') → (∀ k ∈ gs.map Prod.fst, k ≠ p.1 → W'.heap[k]? = W.heap[k]?) → OwnRows W' base gs (rs.set i r')
 | [], [], i, p, r', _, _, hp, _, _ => by simp at hp
 | q :: gs, s :: rs, 0, p, r', h, hn, hp, ho, hk => by
  obtain rfl := Option.some.inj hp
  rw [List.map_cons] at hn
  obtain ⟨n1, n2⟩ := List.nodup_cons.1 hn
  exact ⟨ho, h.2.keep (fun k hm => hk k (by simp at hm ⊢; exact .inr hm) (fun e => n1 (e ▸ hm)))⟩
 | q :: gs, s :: rs, i + 1, p, r', h, hn, hp, ho, hk => by
  rw [List.map_cons] at hn
  obtain ⟨n1, n2⟩ := List.nodup_cons.1 hn
  have hp2 : gs[i]? = some p := by simpa using hp
  have hm : p.1 ∈ gs.map Prod.fst := List.mem_map.2 ⟨p, List.mem_of_getElem? hp2, rfl⟩
  exact ⟨own_keep h.1 (hk q.1 (by simp) (fun e => n1 (e ▸ hm))), h.2.put n2 hp2 ho (fun k hm hne => hk k (by simp at hm ⊢; exact .inr hm) hne)⟩
structure Tch (S : List Nat) (w w' : World) : Prop where
 os : w'.os = w.os
 tape : w'.tape = w.tape
 output : w'.output = w.output
 size : w.heap.size ≤ w'.heap.size
 block : ∀ k, k < w.heap.size → k ∉ S → w'.heap[k]? = w.heap[k]?
theorem Tch.of {S : List Nat} {w w' : World} (h : Below w.heap.size w w') : Tch S w w' := ⟨h.os, h.tape, h.output, h.size, fun k hk _ => h.block k hk⟩
theorem Tch.refl (S : List Nat) (w : World) : Tch S w w := .of (Below.refl _ _)
theorem Tch.trans {S : List Nat} {w w1 w2 : World} (h : Tch S w w1) (h2 : Tch S w1 w2) : Tch S w w2 :=
 ⟨h2.os.trans h.os, h2.tape.trans h.tape, h2.output.trans h.output, Nat.le_trans h.size h2.size, fun k hk hn => (h2.block k (lL' hk h.size) hn).trans (h.block k hk hn)⟩
theorem Tch.below {S : List Nat} {w w1 w2 : World} (h : Tch S w w1) (h2 : Below w1.heap.size w1 w2) : Tch S w w2 := h.trans (.of h2)
theorem Tch.set {S : List Nat} {w W : World} (h : Tch S w W) {g i : Nat} (v : Value) (hg : g ∈ S ∨ w.heap.size ≤ g) : Tch S w (W.setCell ⟨g, i, none⟩ v) :=
 ⟨h.os, h.tape, h.output, by simpa using h.size, fun k hk hn => (Below.heap_setCell _ _ _ _ (by
  show k ≠ g
  rintro rfl
  rcases hg with h | h
  ·
   exact hn h
  ·
   omega)).trans (h.block k hk hn)⟩
theorem Tch.toBelow {S : List Nat} {w w' : World} {b : Nat} (h : Tch S w w') (hs : ∀ k ∈ S, b ≤ k) (hb : b ≤ w.heap.size) : Below b w w' :=
 ⟨h.os, h.tape, h.output, h.size, fun k hk => h.block k (lL' hk hb) (fun hm => by have := hs k hm; omega)⟩
abbrev RowG.blocks (gs : List RowG) : List Nat := gs.map Prod.fst
abbrev parts (gl : Nat) (gs : List RowG) : List Nat := gl :: gs.map Prod.fst
theorem TreeOwn.keep {base a gl cl : Nat} {VV : Value} {gs : List RowG} {T : STree} {W W' : World} (h : TreeOwn base W a T gl cl VV gs) (hb : Below W.heap.size W W') : TreeOwn base W' a T gl cl VV gs := h.far (fun k _ hk => hb.block k hk)
theorem TreeOwn.lt {base a gl cl : Nat} {VV : Value} {gs : List RowG} {T : STree} {W : World} (h : TreeOwn base W a T gl cl VV gs) : ∀ k ∈ parts gl gs, base ≤ k ∧ k < W.heap.size := by
 intro k hk
 rcases List.mem_cons.1 hk with rfl | hk
 ·
  exact h.hl.lt _ rfl
 ·
  exact h.hg.lt k hk
theorem TreeOwn.putNode {base a gl cl : Nat} {VV : Value} {gs : List RowG} {T : STree} {W : World} (h : TreeOwn base W a T gl cl VV gs) {i q : Nat} {p : RowG} {r : List SNode} (x : SNode) (hp : gs[i]? = some p) (hr : T.rows[i]? = some r) (hq : q < r.length) :
  TreeOwn base (((W.setCell ⟨p.1, q * 3, none⟩ (.string x.f0)).setCell ⟨p.1, q * 3 + 1, none⟩ (.int .u64 x.f1.f0)).setCell ⟨p.1, q * 3 + 2, none⟩ (.int .u64 x.f1.f1)) a ⟨T.wd, T.leaves, T.rows.set i (r.set q x)⟩ gl cl VV gs := by
 obtain ⟨p', hp', hown⟩ := h.hg.get hr
 rw [hp] at hp'
 obtain rfl := Option.some.inj hp'
 have hm : p.1 ∈ gs.map Prod.fst := List.mem_map.2 ⟨p, List.mem_of_getElem? hp, rfl⟩
 have hap := h.ap
 have h1 : a ≠ p.1 := fun e => (List.nodup_cons.1 hap).1 (e ▸ List.mem_cons_of_mem _ hm)
 have h2 : gl ≠ p.1 := fun e => (List.nodup_cons.1 (List.nodup_cons.1 hap).2).1 (e ▸ hm)
 have hk : ∀ k, k ≠ p.1 → (((W.setCell ⟨p.1, q * 3, none⟩ (.string x.f0)).setCell ⟨p.1, q * 3 + 1, none⟩ (.int .u64 x.f1.f0)).setCell ⟨p.1, q * 3 + 2, none⟩ (.int .u64 x.f1.f1)).heap[k]? = W.heap[k]? := fun k hk =>
  (Below.heap_setCell _ _ _ _ hk).trans ((Below.heap_setCell _ _ _ _ hk).trans (Below.heap_setCell _ _ _ _ hk))
 have hlen : (r.set q x).length = r.length := List.length_set ..
 have hown2 := own_put (own_put (own_put hown (q * 3) (.string x.f0)) (q * 3 + 1) (.int .u64 x.f1.f0)) (q * 3 + 2) (.int .u64 x.f1.f1)
 rw [cellsN_set x r q hq] at hown2
 refine ⟨(hk a h1).trans h.ht, own_keep h.hl (hk gl h2), ?_, ?_, h.ap, h.av, h.lo⟩
 ·
  show World.ownsRow _ base _ 2 VV (T.rows.set i (r.set q x)).length (cellsV 0 gs (T.rows.set i (r.set q x)))
  rw [List.length_set, cellsV_set hlen 0 i gs T.rows hr]
  refine ownAny_keep h.hv (fun g hg => hk g (fun e => h.av g hg (e ▸ ?_)))
  exact List.mem_cons_of_mem _ (List.mem_cons_of_mem _ hm)
 ·
  refine h.hg.put (List.nodup_cons.1 (List.nodup_cons.1 hap).2).2 hp ?_ (fun k _ hne => hk k hne)
  rw [hlen]
  rw [rowV, hlen]
  exact hown2
theorem TreeOwn.putLeaf {base a gl cl : Nat} {VV : Value} {gs : List RowG} {T : STree} {W : World} (h : TreeOwn base W a T gl cl VV gs) {p : Nat} (x : SLeaf) (hp : p < T.leaves.length) :
  TreeOwn base (((((W.setCell ⟨gl, p * 5, none⟩ (.bool x.f0)).setCell ⟨gl, p * 5 + 1, none⟩ (.string x.f1)).setCell ⟨gl, p * 5 + 2, none⟩ (.string x.f2)).setCell ⟨gl, p * 5 + 3, none⟩ (.int .u64 x.f3.f0)).setCell ⟨gl, p * 5 + 4, none⟩ (.int .u64 x.f3.f1)) a ⟨T.wd, T.leaves.set p x, T.rows⟩ gl cl VV gs := by
 have hap := h.ap
 have h1 : a ≠ gl := fun e => (List.nodup_cons.1 hap).1 (e ▸ List.mem_cons_self ..)
 have h2 : ∀ k ∈ gs.map Prod.fst, k ≠ gl := fun k hm e => (List.nodup_cons.1 (List.nodup_cons.1 hap).2).1 (e ▸ hm)
 have hk : ∀ k, k ≠ gl → (((((W.setCell ⟨gl, p * 5, none⟩ (.bool x.f0)).setCell ⟨gl, p * 5 + 1, none⟩ (.string x.f1)).setCell ⟨gl, p * 5 + 2, none⟩ (.string x.f2)).setCell ⟨gl, p * 5 + 3, none⟩ (.int .u64 x.f3.f0)).setCell ⟨gl, p * 5 + 4, none⟩ (.int .u64 x.f3.f1)).heap[k]? = W.heap[k]? := fun k hk =>
  (Below.heap_setCell _ _ _ _ hk).trans ((Below.heap_setCell _ _ _ _ hk).trans ((Below.heap_setCell _ _ _ _ hk).trans ((Below.heap_setCell _ _ _ _ hk).trans (Below.heap_setCell _ _ _ _ hk))))
 have hown2 := own_put (own_put (own_put (own_put (own_put h.hl (p * 5) (.bool x.f0)) (p * 5 + 1) (.string x.f1)) (p * 5 + 2) (.string x.f2)) (p * 5 + 3) (.int .u64 x.f3.f0)) (p * 5 + 4) (.int .u64 x.f3.f1)
 rw [cellsL_set x _ p hp] at hown2
 have hlen : (T.leaves.set p x).length = T.leaves.length := List.length_set ..
 refine ⟨?_, ?_, ownAny_keep h.hv (fun g hg => hk g (fun e => h.av g hg (e ▸ ?_))), h.hg.keep (fun k hm => hk k (h2 k hm)), h.ap, h.av, h.lo⟩
 ·
  show _ = some (Obj.cells #[_, .slice _ (T.leaves.set p x).length _, _] _ _)
  rw [hlen]; exact (hk a h1).trans h.ht
 ·
  show World.ownsRow _ base _ 5 (.slice _ (T.leaves.set p x).length _) (T.leaves.set p x).length _
  rw [hlen]; exact hown2
 ·
  exact List.mem_cons_of_mem _ (List.mem_cons_self ..)
theorem TreeOwn.levels {base a gl cl : Nat} {VV : Value} {gs : List RowG} {T : STree} {W : World} (h : TreeOwn base W a T gl cl VV gs) (hv : 1 ≤ T.rows.length) :
  ∃ gv cv, VV = .slice (some ⟨gv, 0, none⟩) T.rows.length cv ∧ T.rows.length ≤ cv ∧ gv < W.heap.size ∧ gv ∉ a :: gl :: gs.map Prod.fst := by
 obtain ⟨gv, cv, hvv, hbb, hlt⟩ := h.hv.form hv
 refine ⟨gv, cv, hvv, ?_, (h.hv.lt gv (by rw [hvv]; rfl)).2, h.av gv (by rw [hvv]; rfl)⟩
 rcases h.hv.2 with ⟨_, h2⟩ | ⟨g', cap', cur, h1, _, _, h2, _⟩
 ·
  omega
 ·
  rw [hvv] at h1; cases h1; exact h2
theorem TreeOwn.level {base a gl cl gv cv i : Nat} {gs : List RowG} {T : STree} {W : World} {r : List SNode} (h : TreeOwn base W a T gl cl (.slice (some ⟨gv, 0, none⟩) T.rows.length cv) gs) (hr : T.rows[i]? = some r) :
  ∃ p, gs[i]? = some p ∧ W.cell? ⟨gv, i * 2, none⟩ = some (rowV p r) ∧ W.cell? ⟨gv, i * 2 + 1, none⟩ = some (.int .i64 (i : Int)) ∧ r.length ≤ p.2 ∧ Kd.C kNode W (some ⟨p.1, 0, none⟩) r.length r ∧ p.1 ∈ gs.map Prod.fst ∧ ∃ c, W.heap[p.1]? = some (.cells c 46 (0, 0)) ∧ r.length * 3 ≤ c.size := by
 obtain ⟨p, hp, ho⟩ := h.hg.get hr
 obtain ⟨c1, c2⟩ := cellsV_get 0 i gs T.rows p r hp hr
 obtain ⟨r1, r2, r3⟩ := ownNodes_C ho
 have hcell := h.hv.cells (g := gv) rfl
 have ea : ∀ n, (⟨gv, 0, none⟩ : Addr).add n = ⟨gv, n, none⟩ := fun n => by unfold Addr.add; split <;> simp_all
 have c0 := hcell _ _ c1
 have := hcell _ _ c2
 rw [Nat.zero_add] at this
 rw [ea] at this c0
 refine ⟨p, hp, c0, this, r2, r3, List.mem_map.2 ⟨p, List.mem_of_getElem? hp, rfl⟩, ?_⟩
 rcases ho.2 with ⟨h1, _⟩ | ⟨g', cap', cur, h1, _, h2, h3, _, h5, _⟩
 ·
  cases h1
 ·
  cases h1
  exact ⟨cur, h2, by rw [h5]; exact Nat.mul_le_mul_right 3 h3⟩
end Go.Proofs.YtfcodmdckcihmaaDoor.P
namespace Go.Proofs.YtfcodmdckcihmaaDoor.P
open Go.RowKit Go.Proofs.YtfcodmdckcihmaaDoorW.PrintWords Go.Proofs.YtfcodmdckcihmaaDoorW.PrintLast Go.Proofs.YtfcodmdckcihmaaDoorW.PrintMore
set_option linter.unusedVariables false
set_option linter.unusedSimpArgs false
set_option linter.unnecessarySimpa false
def besN (n : Nat) : Nat := if n % 2 = 1 then n - 1 else n + 1
theorem xor_one (n : Nat) : n ^^^ 1 = besN n := by
 have h1 : (n ^^^ 1) / 2 = n / 2 := by rw [Nat.xor_div_two]; simp
 have h2 : (n ^^^ 1) % 2 = (n + 1) % 2 := by
  have h := Nat.xor_mod_two_eq_one (a := n) (b := 1)
  have h3 := Nat.mod_two_eq_zero_or_one (n ^^^ 1)
  have h4 := Nat.mod_two_eq_zero_or_one n
  simp only [show (1 : Nat) % 2 = 1 from rfl, iff_true] at h
  generalize (n ^^^ 1) % 2 = u at h h3 ⊢
  omega
 unfold besN
 split <;> omega
theorem bits_bes (n : Nat) (h : n < 18446744073709551616) : Go.bits .xor .u64 (n : Int) 1 = (besN n : Int) := by
 have := bits_xor_u64_nat n 1 h (by decide)
 rw [xor_one] at this
 exact this
theorem bits_odd (n : Nat) (h : n < 18446744073709551616) : Go.bits .and .u64 (n : Int) 1 = ((n % 2 : Nat) : Int) := by
 have := bits_and_u64_nat n 1 h (by decide)
 rw [Nat.and_one_is_mod] at this
 exact this
end Go.Proofs.YtfcodmdckcihmaaDoor.P
