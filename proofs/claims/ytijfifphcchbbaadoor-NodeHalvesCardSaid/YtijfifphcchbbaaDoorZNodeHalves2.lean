/- PROVED HERE: the Go function paymasterlaw14.NodeHalves returns true for every input that the given statement speaks of, and each argument reads behind the call as it read before. Conditions: none beyond the given statement's own (the laid table of constants, tied by the card). -/
-- Several texts of this workplace as one.
import Derived.Test.YtijfifphcchbbaaDoorZNodeHalves1
import Derived.Test.YtijfifphcchbbaaDoorProg
import Derived.Deep.OwnRows
import Derived.Laws.Rows
import Derived.Test.YtijfifphcchbbaaDoorRows
import Derived.Test.YtijfifphcchbbaaDoorCards
import Derived.Test.YtijfifphcchbbaaDoorTie
namespace Go.Proofs.YtijfifphcchbbaaDoor.P
open Go.RowKit Go.Proofs.YtijfifphcchbbaaDoorW.PrintWords Go.Proofs.YtijfifphcchbbaaDoorW.PrintLast Go.Proofs.YtijfifphcchbbaaDoorW.PrintMore
set_option linter.unusedVariables false
set_option linter.unusedSimpArgs false
set_option linter.unnecessarySimpa false
attribute [local go_sem] Oper.semAt_some sel_true
theorem chunk.calls (A : Option Addr) (m c : Nat) (w : World) : Calls Tryd.prog 93 #[.slice A m c, .int .i64 2] w fun e w' => e = .returned (.func (.func 133) #[] #[.pointer (some ⟨w.heap.size, 0, none⟩), .pointer (some ⟨w.heap.size + 1, 0, none⟩)]) ∧ w' = (w.alloc (.cells #[.slice A m c] 22)).alloc (.cells #[.int .i64 2] 3) := by
 go_enter Tryd.func93, Tryd.ntmps93
 go_wp2
 go_ret
 exact ⟨rfl, rfl⟩
set_option maxRecDepth 100000 in
theorem fold1.calls (wd : Int) (B : Nat) (a b : SNode) (W : World) (hB : W.heap[B]? = some (.cells #[.int .i64 wd] 3 (0, 0))) (hK : Laid W) (ua : OkU a.f1) (ub : OkU b.f1) :
  Calls Tryd.prog 58 #[nodeV a, nodeV b, .pointer (some ⟨B, 0, none⟩)] W fun e W' => e = .returned (.tuple #[nodeV (nodeJ (joinI wd a b)), .int .i64 (joinI wd a b).2.2.2]) ∧ Below W.heap.size W W' := by
 have hu := Tryd.underlying28
 have hc : ∀ o1 o2 o3, (((W.alloc o1).alloc o2).alloc o3).cell? ⟨B, 0, none⟩ = some (.int .i64 wd) := fun o1 o2 o3 => blk_cell (blk_alloc (blk_alloc (blk_alloc hB o1) o2) o3) 0
 obtain ⟨k, hk⟩ := join_ev wd a b ua ub
 have HJ := aM' (hk k (Nat.le_refl _))
 have HK := aM' hK
 rcases hj : joinI wd a b with ⟨r1, r2, r3, r4⟩
 rw [hj] at HJ
 clear hk hj hK hB
 go_enter Tryd.func58, Tryd.ntmps58
 go_wp2_with fail
 have hBa : Below W.heap.size W (((W.alloc (.cells #[.string a.f0, .int .u64 a.f1.f0, .int .u64 a.f1.f1] 28)).alloc (.cells #[.string b.f0, .int .u64 b.f1.f0, .int .u64 b.f1.f1] 28)).alloc (.cells #[.string ⟨#[]⟩, .int .u64 0, .int .u64 0] 28)) := below_alloc (below_alloc (below_alloc (Below.refl _ _) _) _) _
 refine (node_Join.calls k wd a.f0 a.f1.f0 a.f1.f1 b.f0 b.f1.f0 b.f1.f1 r1 r2 r3 r4 _ (HK.out.below hBa) HJ.out).mono ?_
 rintro e w1 ⟨rfl, hb⟩
 have hz := blk_below (blk_new ((W.alloc (.cells #[.string a.f0, .int .u64 a.f1.f0, .int .u64 a.f1.f1] 28)).alloc (.cells #[.string b.f0, .int .u64 b.f1.f0, .int .u64 b.f1.f1] 28)) (.cells #[.string ⟨#[]⟩, .int .u64 0, .int .u64 0] 28)) hb
 rw [World.size_alloc, World.size_alloc] at hz
 have HB1 := aM' (hBa.trans (hb.mono hBa.size))
 have z0 : w1.cell? ⟨W.heap.size + 1 + 1, 0, none⟩ = some (.string ⟨#[]⟩) := blk_cell hz 0
 have z1 : w1.cell? ⟨W.heap.size + 1 + 1, 1, none⟩ = some (.int .u64 0) := blk_cell hz 1
 have z2 : w1.cell? ⟨W.heap.size + 1 + 1, 2, none⟩ = some (.int .u64 0) := blk_cell hz 2
 have zf : ∀ i, w1.frozen? ⟨W.heap.size + 1 + 1, i, none⟩ = false := fun i => blk_frozen hz i
 clear hb hBa hz HK HJ
 go_wp2
 refine bodyPost_ret (v := .tuple #[.agg #[.string r1, .int .u64 r2, .int .u64 r3], .int .i64 r4]) ?_ rfl ⟨rfl, ?_⟩
 ·
  simp [results, Tryd.results58, go_sem, hu, z0, z1, z2]
 ·
  exact below_set (below_set (below_set HB1.out (by (try dsimp only); omega)) (by (try dsimp only); omega)) (by (try dsimp only); omega)
def chunkV (ad : Addr) (j : Nat) : Value := .slice (some (ad.add (2 * j * 3))) 2 2
theorem slice_from (ad : Addr) (M c i : Nat) (h : i < M) (hc : M ≤ c) (wx : World) : (Instr.slice 22 (.slice (some ad) M c) (some (.int .i64 i)) none none).run Tryd.prog wx = .ok (.slice (some (ad.add (i * 3))) (M - i) (c - i)) wx := by
 have h1 := run_slice_l (P := Tryd.prog) wx 22 (some ad) M c (by kernel_rfl) .i64 (i : Int) (by omega) (by omega)
 rw [h1]
 have hs : (sizeOf (Tryd.prog.elem 22)).run Tryd.prog wx = .ok 3 wx := by kernel_rfl
 rw [hs]
 simp only [Result.andThen, sliced, Int.toNat_natCast]
 rw [if_neg (by omega)]; rfl
theorem slice_two (ad : Addr) (M c i : Nat) (h : i + 2 ≤ M) (hc : M ≤ c) (wx : World) : (Instr.slice 22 (.slice (some ad) M c) (some (.int .i64 i)) (some (.int .i64 ((i : Int) + 2))) (some (.int .i64 ((i : Int) + 2)))).run Tryd.prog wx = .ok (.slice (some (ad.add (i * 3))) 2 2) wx := by
 have h1 := run_slice_lhm (P := Tryd.prog) wx 22 (some ad) M c (by kernel_rfl) .i64 .i64 .i64 (i : Int) ((i : Int) + 2) ((i : Int) + 2) (by omega) (by omega) (by omega) (by omega)
 rw [h1]
 have hs : (sizeOf (Tryd.prog.elem 22)).run Tryd.prog wx = .ok 3 wx := by kernel_rfl
 rw [hs]
 simp only [Result.andThen, sliced, Int.toNat_natCast, show ((i : Int) + 2).toNat = i + 2 by omega]
 rw [if_neg (by omega)]
 simp
set_option maxRecDepth 100000 in
set_option maxHeartbeats 1000000 in
theorem chunk1_in (n : Nat) (hn : 1 ≤ n) (lp sb nb B : Nat) (ad : Addr) (m M c : Nat) (hM : M = 2 * m) (hm : m ≤ 1000000) (hmc : M ≤ c) (S : Nat → Prop) (hSs : S sb) (hSn : S nb)
  (J Jx : List Nat → World → Prop) (hJ : AbidesFrom B J)
  (hY : ∀ j W, J (List.range j) W → j < m → YieldAt Fence.wide (n - 1) Tryd.prog lp #[chunkV ad j] W fun e W' => (e = .returned (.bool true) ∧ J (List.range (j + 1)) W' ∧ KeepS S W W') ∨ (e = .returned (.bool false) ∧ Jx (List.range (j + 1)) W'))
  (W : World) (hs : W.heap[sb]? = some (.cells #[.slice (some ad) M c] 22 (0, 0))) (hpb : W.heap[nb]? = some (.cells #[.int .i64 2] 3 (0, 0))) (h0 : J [] W) :
  CallsIn Fence.wide n Tryd.prog 133 #[.func (.yield lp) #[] #[], .pointer (some ⟨sb, 0, none⟩), .pointer (some ⟨nb, 0, none⟩)] W fun e W' => (∃ v, e = .returned v) ∧ (J (List.range m) W' ∨ ∃ j, j ≤ m ∧ Jx (List.range j) W') := by
 have HS := aM' hs
 have HP := aM' hpb
 have HJ := aM' hJ
 have HY := aM' hY
 have HM := aM' hm
 have HMC := aM' hmc
 have HMM := aM' hM
 clear hs hpb hJ hY hm hmc hM
 refine callsIn_of_wp Tryd.func133 rfl trivial ?_
 simp only [Tryd.ntmps133, List.size_toArray, List.length_cons, List.length_nil, Nat.reduceAdd, Nat.reduceSub, Array.replicate_succ, Array.replicate_zero, List.push_toArray, List.append_toArray, List.nil_append, List.cons_append]
 gi_wp2
 gi_loopw [4] (fun v wr => ∃ i j : Nat, v = .int .i64 i ∧ Aside0 (i = 2 * j ∧ j ≤ m) ∧ Aside0 (J (List.range j) wr) ∧ Aside0 (KeepS S W wr)) (fun v _ => M - (intOf v).toNat)
 case atStart => exact ⟨0, 0, rfl, ⟨rfl, Nat.zero_le _⟩, ⟨h0⟩, ⟨fun _ _ => rfl⟩⟩
 case round =>
  obtain ⟨i, j, rfl, HI, HJs, HK⟩ := hrel
  have x0 : wr.cell? ⟨sb, 0, none⟩ = some (.slice (some ad) M c) := blk_cell ((HK.out sb hSs).trans HS.out) 0
  have x1 : wr.cell? ⟨nb, 0, none⟩ = some (.int .i64 2) := blk_cell ((HK.out nb hSn).trans HP.out) 0
  by_cases hlt : j < m
  ·
   have hi2 : i + 2 ≤ M := by have := HI.out; have := HMM.out; omega
   have b1 : decide (i < M) = true := decide_eq_true (by omega)
   have s1 := fun wx => slice_from ad M c i (by omega) HMC.out wx
   have s2 := fun wx => slice_two ad M c i hi2 HMC.out wx
   have wi : wrap64 ((i : Int) + 2) = (i : Int) + 2 := by have := HMM.out; have := HM.out; exact wrap64_id (by omega) (by omega)
   have mn : min (2 : Int) ((M - i : Nat) : Int) = 2 := by omega
   obtain ⟨fn, tmps, assign, body, hy, hR⟩ := HY.out j wr.drew (HJ.out _ wr _ none HJs.out (grown_drew _) (fun r e => by cases e)) hlt
   have he : chunkV ad j = .slice (some (ad.add (i * 3))) 2 2 := by rw [HI.out.1]; rfl
   rw [he] at hy
   have hR2 := hR.mono (fun e W' h => (show ∃ b : Bool, e = .returned (.bool b) ∧ Aside0 ((b = true ∧ J (List.range (j + 1)) W' ∧ KeepS S wr.drew W') ∨ (b = false ∧ Jx (List.range (j + 1)) W')) from
    h.elim (fun h => ⟨true, h.1, ⟨.inl ⟨rfl, h.2⟩⟩⟩) (fun h => ⟨false, h.1, ⟨.inr ⟨rfl, h.2⟩⟩⟩)))
   clear hR he
   gi_wp2
   refine region_invIn (fun l a W => a = ({ tmps := #[.func (.yield lp) #[] #[], .pointer (some ⟨sb, 0, none⟩), .pointer (some ⟨nb, 0, none⟩), undef, .int .i64 (i : Int), sel (l 6) (.int .i64 2) (u5), .int .i64 (i : Int), .slice (some ad) M c, .int .i64 (M : Int), .bool true, u10, u11, u12, sel (l 0) (.int .i64 2) (u13), sel (l 1) (.slice (some ad) M c) (u14), sel (l 2) (.int .i64 (i : Int)) (u15), sel (l 3) (.slice (some (ad.add (i * 3))) (M - i) (c - i)) (u16), sel (l 4) (.int .i64 ((M - i : Nat) : Int)) (u17), sel (l 5) (.int .i64 2) (u18), u19, u20, u21, u22, u23, u24, u25, u26, u27, u28, u29, u30], defers := [] } : Act) ∧ (W = wr.drew)) 7 rfl rfl (by kernel_rfl) ?h0 ?hend ?hstep
   case h0 => exact ⟨rfl, rfl⟩
   case hstep =>
    refine rg_cons (rg_cons (rg_cons (rg_cons (rg_cons (rg_cons (rg_cons (rg_nil) ?s0) ?s1) ?s2) ?s3) ?s4) ?s5) ?s6
    case s0 =>
     refine rgi_step rfl ?_
     rintro l a W ⟨rfl, rfl⟩ hl hd
     clear hd
     refine rgi_val (v := .int .i64 2) (w' := wr.drew) (fun _ => trivial) rfl (fun _ h => by cases h) (by go_simp) ?_
     refine ⟨?_, ?_⟩
     ·
      simp only [Act.put, List.setIfInBounds_toArray, List.set_cons_zero, List.set_cons_succ]; rfl
     ·
      rfl
    case s1 =>
     refine rgi_step rfl ?_
     rintro l a W ⟨rfl, rfl⟩ hl hd
     clear hd
     refine rgi_val (v := .slice (some ad) M c) (w' := wr.drew) (fun _ => trivial) rfl (fun _ h => by cases h) (by go_simp) ?_
     refine ⟨?_, ?_⟩
     ·
      simp only [Act.put, List.setIfInBounds_toArray, List.set_cons_zero, List.set_cons_succ]; rfl
     ·
      rfl
    case s2 =>
     refine rgi_step rfl ?_
     rintro l a W ⟨rfl, rfl⟩ hl hd
     clear hd
     refine rgi_val (v := .int .i64 (i : Int)) (w' := wr.drew) (fun _ => trivial) rfl (fun _ h => by cases h) (by go_simp) ?_
     refine ⟨?_, ?_⟩
     ·
      simp only [Act.put, List.setIfInBounds_toArray, List.set_cons_zero, List.set_cons_succ]; rfl
     ·
      rfl
    case s3 =>
     refine rgi_step rfl ?_
     rintro l a W ⟨rfl, rfl⟩ hl hd
     have d1 := hd 1 (by decide)
     have d2 := hd 2 (by decide)
     clear hd
     refine rgi_val (v := .slice (some (ad.add (i * 3))) (M - i) (c - i)) (w' := wr.drew) (fun _ => trivial) rfl (fun _ h => by cases h) (by go_simp) ?_
     refine ⟨?_, ?_⟩
     ·
      simp only [Act.put, List.setIfInBounds_toArray, List.set_cons_zero, List.set_cons_succ]; rfl
     ·
      rfl
    case s4 =>
     refine rgi_step rfl ?_
     rintro l a W ⟨rfl, rfl⟩ hl hd
     have d3 := hd 3 (by decide)
     clear hd
     refine rgi_val (v := .int .i64 ((M - i : Nat) : Int)) (w' := wr.drew) (fun _ => trivial) rfl (fun _ h => by cases h) (by go_simp) ?_
     refine ⟨?_, ?_⟩
     ·
      simp only [Act.put, List.setIfInBounds_toArray, List.set_cons_zero, List.set_cons_succ]; rfl
     ·
      rfl
    case s5 =>
     refine rgi_step rfl ?_
     rintro l a W ⟨rfl, rfl⟩ hl hd
     have d0 := hd 0 (by decide)
     have d4 := hd 4 (by decide)
     clear hd
     refine rgi_val (v := .int .i64 2) (w' := wr.drew) (fun _ => trivial) rfl (fun _ h => by cases h) (by go_simp) ?_
     refine ⟨?_, ?_⟩
     ·
      simp only [Act.put, List.setIfInBounds_toArray, List.set_cons_zero, List.set_cons_succ]; rfl
     ·
      rfl
    case s6 =>
     refine rgi_step rfl ?_
     rintro l a W ⟨rfl, rfl⟩ hl hd
     have d5 := hd 5 (by decide)
     clear hd
     refine rgi_val (v := .int .i64 2) (w' := wr.drew) (fun _ => trivial) rfl (fun _ h => by cases h) (by go_simp) ?_
     refine ⟨?_, ?_⟩
     ·
      simp only [Act.put, List.setIfInBounds_toArray, List.set_cons_zero, List.set_cons_succ]; rfl
     ·
      rfl
   case hend =>
    rintro l a W ⟨rfl, rfl⟩ hall
    have e0 := hall 0 (by decide)
    have e1 := hall 1 (by decide)
    have e2 := hall 2 (by decide)
    have e3 := hall 3 (by decide)
    have e4 := hall 4 (by decide)
    have e5 := hall 5 (by decide)
    have e6 := hall 6 (by decide)
    clear hall
    simp only [e0, e1, e2, e3, e4, e5, e6, sel_true]
    clear e0 e1 e2 e3 e4 e5 e6
    gi_wp2_with fail
    refine hR2.mono ?_
    clear hR2 hy x0 x1 s1 s2 mn
    rintro e W3 ⟨b, rfl, HE⟩
    cases b with
    | true =>
     obtain ⟨-, hJ2, hK2⟩ | ⟨h, -⟩ := HE.out
     case inr => exact absurd h (by decide)
     have hK3 : KeepS S W W3 := HK.out.trans hK2
     have HK3 := aM' hK3
     have HJ2 := aM' hJ2
     have x1 : W3.cell? ⟨nb, 0, none⟩ = some (.int .i64 2) := blk_cell ((hK3 nb hSn).trans HP.out) 0
     clear hK2 hK3 hJ2 HE
     gi_wp2
     rw [wi]
     refine ⟨⟨i + 2, j + 1, by simp, ⟨by have := HI.out; omega, hlt⟩, HJ2, HK3⟩, ?_⟩
     show M - ((i : Int) + 2).toNat < M - (i : Int).toNat
     omega
    | false =>
     obtain ⟨h, -⟩ | ⟨-, hJ2⟩ := HE.out
     case inl => exact absurd h (by decide)
     have HJ2 := aM' hJ2
     clear hJ2 HE
     gi_wp2
     refine bodyPost_ret (results_none rfl _ _ _) rfl ?_
     exact ⟨⟨_, rfl⟩, .inr ⟨_, hlt, HJ2.out⟩⟩
  ·
   have b1 : decide (i < M) = false := decide_eq_false (by have := HI.out; have := HMM.out; omega)
   obtain rfl : j = m := by have := HI.out; omega
   gi_wp2
   go_end0
   exact ⟨⟨_, rfl⟩, .inl HJs.out⟩
end Go.Proofs.YtijfifphcchbbaaDoor.P
namespace Go.Proofs.YtijfifphcchbbaaDoor.P
open Go.RowKit Go.Proofs.YtijfifphcchbbaaDoorW.PrintWords Go.Proofs.YtijfifphcchbbaaDoorW.PrintLast Go.Proofs.YtijfifphcchbbaaDoorW.PrintMore
set_option linter.unusedVariables false
set_option linter.unusedSimpArgs false
set_option linter.unnecessarySimpa false
attribute [local go_sem] Oper.semAt_some sel_true
theorem nodeInfo : (Tryd.prog.info? 28).map (fun i => (i.zero, i.size, i.bytes)) = some (some (.agg #[(.string ⟨#[]⟩), (.int .u64 0), (.int .u64 0)]), 3, 32) := by kernel_rfl
def cellsN : List SNode → List Value
  | [] => []
  | x :: l => .string x.f0 :: .int .u64 x.f1.f0 :: .int .u64 x.f1.f1 :: cellsN l
theorem cellsN_len : ∀ l, (cellsN l).length = l.length * 3
  | [] => rfl
  | x :: l => by simp [cellsN, cellsN_len l]; omega
theorem cellsN_append : ∀ a b, cellsN (a ++ b) = cellsN a ++ cellsN b
  | [], _ => rfl
  | x :: a, b => by rw [List.cons_append, cellsN, cellsN_append a b]; rfl
theorem cellsN_get : ∀ (l : List SNode) (j i : Nat) (p : SNode), l[j]? = some p → i < 3 → (cellsN l)[j * 3 + i]? = [Value.string p.f0, .int .u64 p.f1.f0, .int .u64 p.f1.f1][i]?
  | [], j, i, p, h, _ => by simp at h
  | x :: l, 0, i, p, h, hi => by
    obtain rfl := Option.some.inj h
    rw [cellsN, Nat.zero_mul, Nat.zero_add]
    match i, hi with
    | 0, _ => rfl
    | 1, _ => rfl
    | 2, _ => rfl
  | x :: l, j + 1, i, p, h, hi => by
    have h' : l[j]? = some p := by simpa using h
    rw [cellsN, show (j + 1) * 3 + i = (j * 3 + i) + 3 by omega]
    simp only [List.getElem?_cons_succ]
    exact cellsN_get l j i p h' hi
theorem addr_at (g n : Nat) : (⟨g, 0, none⟩ : Addr).add n = ⟨g, n, none⟩ := by unfold Addr.add; split <;> simp_all
theorem ownNodes_C {w : World} {base g n cap : Nat} {xs : List SNode} (h : w.ownsRow base 28 3 (.slice (some ⟨g, 0, none⟩) n cap) n (cellsN xs)) : xs.length = n ∧ n ≤ cap ∧ Kd.C kNode w (some ⟨g, 0, none⟩) n xs := by
  obtain ⟨hlen, h⟩ := h
  rw [cellsN_len] at hlen
  have hl : xs.length = n := by omega
  rcases h with ⟨h, _⟩ | ⟨g', cap', cur, hv, hb, hg, hcap, hmax, hsz, htk⟩
  · cases h
  · simp only [Value.slice.injEq, Option.some.injEq, Addr.mk.injEq] at hv
    obtain ⟨⟨rfl, -⟩, -, rfl⟩ := hv
    refine ⟨hl, hcap, hl, by unfold maxLen at hmax; omega, fun h0 => ⟨_, rfl, fun j p hj => ?_⟩⟩
    refine ⟨_, rfl, kNode_mk w p, fun i u hu => ?_⟩
    have hi : i < 3 := by
      rcases Nat.lt_or_ge i 3 with h | h
      · exact h
      · simp [h] at hu
    have hjn : j < xs.length := (List.getElem?_eq_some_iff.1 hj).1
    have e : kNode.sz = 3 := rfl
    rw [e, addr_at, blk_cell hg]
    have h1 := cellsN_get xs j i p hj hi
    rw [← htk, List.getElem?_take, if_pos (by omega)] at h1
    rw [hu] at h1
    simpa using h1
theorem two_at {W : World} {ad : Addr} {l : List SNode} (h : Kd.C kNode W (some ad) l.length l) (j : Nat) (hj : 2 * j + 1 < l.length) :
    ((W.cell? (ad.add (2 * j * 3)) = some (.string (l[2 * j]'(by omega)).f0) ∧ W.cell? ⟨(ad.add (2 * j * 3)).block, (ad.add (2 * j * 3)).off + 1, none⟩ = some (.int .u64 (l[2 * j]'(by omega)).f1.f0) ∧ W.cell? ⟨(ad.add (2 * j * 3)).block, (ad.add (2 * j * 3)).off + 2, none⟩ = some (.int .u64 (l[2 * j]'(by omega)).f1.f1)) ∧
     (W.cell? ((ad.add (2 * j * 3)).add 3) = some (.string l[2 * j + 1].f0) ∧ W.cell? ⟨((ad.add (2 * j * 3)).add 3).block, ((ad.add (2 * j * 3)).add 3).off + 1, none⟩ = some (.int .u64 l[2 * j + 1].f1.f0) ∧ W.cell? ⟨((ad.add (2 * j * 3)).add 3).block, ((ad.add (2 * j * 3)).add 3).off + 2, none⟩ = some (.int .u64 l[2 * j + 1].f1.f1))) := by
  obtain ⟨a1, e1, p0, p1, p2⟩ := at_TNode h ((2 * j : Nat) : Int) (by omega) (by omega)
  obtain ⟨a2, e2, q0, q1, q2⟩ := at_TNode h ((2 * j + 1 : Nat) : Int) (by omega) (by omega)
  cases e1; cases e2
  rw [rdNode_nat l (2 * j) (by omega), Int.toNat_natCast] at p0 p1 p2
  rw [rdNode_nat l (2 * j + 1) hj, Int.toNat_natCast] at q0 q1 q2
  have e3 : (ad.add (2 * j * 3)).add 3 = ad.add ((2 * j + 1) * 3) := by rw [Addr.add_add]; congr 1; omega
  rw [e3]
  exact ⟨⟨p0, p1, p2⟩, q0, q1, q2⟩
theorem make_nodes (m : Nat) (h : m ≤ 1000000) : ∃ cur : Array Value, cur.size = m * 3 ∧ ∀ W : World, (Instr.makeSlice 22 (.int .i64 0) (.int .i64 (m : Int))).run Tryd.prog W = .ok (.slice (some ⟨W.heap.size, 0, none⟩) 0 m) (W.alloc (.cells cur 28)) := by
  obtain ⟨i0, hi, hz0, hz1, hz2⟩ := info_parts nodeInfo
  refine ⟨madeCells (Value.agg #[(.string ⟨#[]⟩), (.int .u64 0), (.int .u64 0)]).cells (m * 3), ?_, fun W => ?_⟩
  · exact size_madeCells _ _
  · have hr := run_make (P := Tryd.prog) W 22 28 i0 _ Tryd.underlying22 hi hz0 .i64 .i64 0 (m : Int) (Int.le_refl _) (by omega) (by rw [hz2]; omega) (by omega)
    rw [hz1] at hr
    simpa using hr
theorem two_at' {W : World} {ad : Addr} {l : List SNode} (h : Kd.C kNode W (some ad) l.length l) (j : Nat) (hj : 2 * j + 1 < l.length) (a b : SNode) (ha : a = l.getD (2 * j) zeroN) (hb : b = l.getD (2 * j + 1) zeroN) (ap : Addr) (hap : ap = ad.add (2 * j * 3)) :
    ((W.cell? ap = some (.string a.f0) ∧ W.cell? ⟨ap.block, ap.off + 1, none⟩ = some (.int .u64 a.f1.f0) ∧ W.cell? ⟨ap.block, ap.off + 2, none⟩ = some (.int .u64 a.f1.f1)) ∧
     (W.cell? ⟨ap.block, ap.off + 3, none⟩ = some (.string b.f0) ∧ W.cell? ⟨ap.block, ap.off + 3 + 1, none⟩ = some (.int .u64 b.f1.f0) ∧ W.cell? ⟨ap.block, ap.off + 3 + 2, none⟩ = some (.int .u64 b.f1.f1))) := by
  have h1 : l.getD (2 * j) zeroN = l[2 * j]'(by omega) := by simp [List.getD_eq_getElem?_getD, show 2 * j < l.length by omega]
  have h2 : l.getD (2 * j + 1) zeroN = l[2 * j + 1] := by simp [List.getD_eq_getElem?_getD, hj]
  subst ha hb hap
  rw [h1, h2]
  obtain ⟨p, q0, q1, q2⟩ := two_at h j hj
  have e3 : (ad.add (2 * j * 3)).add 3 = ⟨(ad.add (2 * j * 3)).block, (ad.add (2 * j * 3)).off + 3, none⟩ := rfl
  rw [e3] at q0 q1 q2
  exact ⟨p, q0, q1, q2⟩
structure Pr4 (W0 W : World) (x : SNode) (l : Nat → Bool) (γ : Nat) : Prop where
  hB : Below W0.heap.size W0 W
  hg : l 11 = true → W0.heap.size ≤ γ ∧ W.heap[γ]? = some (.cells (if l 12 = true then nodeA x else #[.string ⟨#[]⟩, .int .u64 0, .int .u64 0]) 28 (0, 0))
  ho : l 12 = true → l 11 = true
theorem Pr4.other {W0 W W' : World} {x : SNode} {l : Nat → Bool} {γ : Nat} (h : Pr4 W0 W x l γ) (i : Nat) (hi : i ≠ 11) (hi2 : i ≠ 12) (hb : Below W.heap.size W W') : Pr4 W0 W' x (upd l i) γ := by
  have e1 : upd l i 11 = l 11 := by unfold upd; rw [if_neg (fun e => hi e.symm)]
  have e2 : upd l i 12 = l 12 := by unfold upd; rw [if_neg (fun e => hi2 e.symm)]
  refine ⟨h.hB.trans (hb.mono h.hB.size), ?_, ?_⟩
  · rw [e1, e2]; exact fun hl => ⟨(h.hg hl).1, blk_below (h.hg hl).2 hb⟩
  · rw [e1, e2]; exact h.ho
theorem Pr4.alloc {W0 W : World} {x : SNode} {l : Nat → Bool} {γ : Nat} (h : Pr4 W0 W x l γ) (hl : l 11 = false) : Pr4 W0 (W.alloc (.cells #[.string ⟨#[]⟩, .int .u64 0, .int .u64 0] 28 (0, 0))) x (upd l 11) W.heap.size := by
  have h12 : l 12 = false := by
    cases hx : l 12 with
    | false => rfl
    | true => rw [h.ho hx] at hl; cases hl
  have e1 : upd l 11 11 = true := rfl
  have e2 : upd l 11 12 = l 12 := rfl
  refine ⟨below_alloc h.hB _, ?_, ?_⟩
  · rw [e1, e2, h12]; exact fun _ => ⟨h.hB.size, blk_new W _⟩
  · rw [e1]; exact fun _ => rfl
theorem Pr4.store {W0 W : World} {x : SNode} {l : Nat → Bool} {γ : Nat} (h : Pr4 W0 W x l γ) (ha : l 11 = true) (hl : l 12 = false) : Pr4 W0 (((W.setCell ⟨γ, 0, none⟩ (.string x.f0)).setCell ⟨γ, 1, none⟩ (.int .u64 x.f1.f0)).setCell ⟨γ, 2, none⟩ (.int .u64 x.f1.f1)) x (upd l 12) γ := by
  have e1 : upd l 12 11 = l 11 := rfl
  have e2 : upd l 12 12 = true := rfl
  obtain ⟨h1, h2⟩ := h.hg ha
  rw [hl, if_neg (by decide)] at h2
  refine ⟨below_set (below_set (below_set h.hB h1) h1) h1, ?_, ?_⟩
  · rw [e1, e2, if_pos rfl]; exact fun _ => ⟨h1, put3 (z := ⟨⟨#[]⟩, ⟨0, 0⟩⟩) h2 x⟩
  · rw [e1]; exact fun _ => ha
abbrev closV (B : Nat) : Value := .func (.func 58) #[] #[.pointer (some ⟨B, 0, none⟩)]
structure PrS (w : World) (B m b3 b4 b5 bx b6 : Nat) (done : List SNode) (r4 : Value) (r5 : Int) (W : World) : Prop where
  n3 : b3 = w.heap.size
  n4 : b4 = w.heap.size + 1
  n5 : b5 = w.heap.size + 2
  nx : bx = w.heap.size + 3
  n6 : b6 = w.heap.size + 4
  h3 : W.heap[b3]? = some (.cells #[closV B] 111 (0, 0))
  h4 : W.heap[b4]? = some (.cells #[r4] 22 (0, 0))
  h5 : W.heap[b5]? = some (.cells #[.int .i64 r5] 29 (0, 0))
  own : W.ownsRow w.heap.size 28 3 (.slice (some ⟨bx, 0, none⟩) done.length m) done.length (cellsN done)
  h6 : W.heap[b6]? = some (.cells #[.slice (some ⟨bx, 0, none⟩) done.length m] 22 (0, 0))
  hB : Below w.heap.size w W
theorem PrS.lt {w W : World} {B m b3 b4 b5 bx b6 : Nat} {done : List SNode} {r4 : Value} {r5 : Int} (h : PrS w B m b3 b4 b5 bx b6 done r4 r5 W) : w.heap.size + 4 < W.heap.size := by have := blk_lt h.h6; rw [h.n6] at this; exact this
theorem own_keep {w w' : World} {base n m g : Nat} {xs : List Value} {e : TypeId} {size : Nat} (h : w.ownsRow base e size (.slice (some ⟨g, 0, none⟩) n m) n xs) (hk : w'.heap[g]? = w.heap[g]?) : w'.ownsRow base e size (.slice (some ⟨g, 0, none⟩) n m) n xs := by
  obtain ⟨hlen, h⟩ := h
  refine ⟨hlen, ?_⟩
  rcases h with ⟨h, _⟩ | ⟨g', cap', cur, hv, hb, hg, hr⟩
  · cases h
  · have e : g' = g := by simp only [Value.slice.injEq, Option.some.injEq, Addr.mk.injEq] at hv; exact hv.1.1.symm
    subst e
    exact .inr ⟨_, cap', cur, hv, hb, hk.trans hg, hr⟩
theorem PrS.keep {w W W' : World} {B m b3 b4 b5 bx b6 : Nat} {done : List SNode} {r4 : Value} {r5 : Int} (h : PrS w B m b3 b4 b5 bx b6 done r4 r5 W) (hk : ∀ k, k ≤ w.heap.size + 4 → W'.heap[k]? = W.heap[k]?) (hB : Below w.heap.size w W') : PrS w B m b3 b4 b5 bx b6 done r4 r5 W' :=
  ⟨h.n3, h.n4, h.n5, h.nx, h.n6, (hk _ (by have := h.n3; omega)).trans h.h3, (hk _ (by have := h.n4; omega)).trans h.h4, (hk _ (by have := h.n5; omega)).trans h.h5, own_keep h.own (hk _ (by have := h.nx; omega)), (hk _ (by have := h.n6; omega)).trans h.h6, hB⟩
theorem PrS.below {w W W' : World} {B m b3 b4 b5 bx b6 : Nat} {done : List SNode} {r4 : Value} {r5 : Int} (h : PrS w B m b3 b4 b5 bx b6 done r4 r5 W) (hb : Below W.heap.size W W') : PrS w B m b3 b4 b5 bx b6 done r4 r5 W' :=
  h.keep (fun k h2 => hb.block k (by have := h.lt; omega)) (h.hB.trans (hb.mono h.hB.size))
theorem PrS.grown {w X Y : World} {B m b3 b4 b5 bx b6 C : Nat} {done : List SNode} {r4 : Value} {r5 : Int} {row : Option Nat} (h : PrS w B m b3 b4 b5 bx b6 done r4 r5 X) (hg : X.grownBy Y row) (hlt : w.heap.size + 4 < C) (hr : ∀ r, row = some r → C ≤ r) : PrS w B m b3 b4 b5 bx b6 done r4 r5 Y := by
  have hl := h.lt
  have hk : ∀ k, k ≤ w.heap.size + 4 → Y.heap[k]? = X.heap[k]? := fun k hk => hg.block k (by omega) (fun e => by have := hr k e.symm; omega)
  exact h.keep hk ⟨hg.os.trans h.hB.os, hg.tape.trans h.hB.tape, hg.output.trans h.hB.output, Nat.le_trans h.hB.size hg.size, fun i hi => (hk i (by omega)).trans (h.hB.block i hi)⟩
theorem PrS.more {w W W' : World} {B m b3 b4 b5 bx b6 : Nat} {done : List SNode} {r4 : Value} {r5 : Int} (x : SNode) (h : PrS w B m b3 b4 b5 bx b6 done r4 r5 W) (hg : W.grownBy W' (some bx)) (hown : W'.ownsRow w.heap.size 28 3 (.slice (some ⟨bx, 0, none⟩) (done.length + 1) m) (done.length + 1) (cellsN done ++ [.string x.f0, .int .u64 x.f1.f0, .int .u64 x.f1.f1])) :
    PrS w B m b3 b4 b5 bx b6 (done ++ [x]) r4 r5 (W'.setCell ⟨b6, 0, none⟩ (.slice (some ⟨bx, 0, none⟩) (done.length + 1) m)) := by
  have hl := h.lt
  have n3 := h.n3; have n4 := h.n4; have n5 := h.n5; have nx := h.nx; have n6 := h.n6
  have hk : ∀ k, k ≤ w.heap.size + 4 → k ≠ bx → W'.heap[k]? = W.heap[k]? := fun k hk hn => hg.block k (by omega) (fun e => hn (Option.some.inj e))
  have hlen : (done ++ [x]).length = done.length + 1 := by simp
  refine ⟨n3, n4, n5, nx, n6, blk_far ((hk _ (by omega) (by omega)).trans h.h3) (by (try dsimp only); omega) _, blk_far ((hk _ (by omega) (by omega)).trans h.h4) (by (try dsimp only); omega) _, blk_far ((hk _ (by omega) (by omega)).trans h.h5) (by (try dsimp only); omega) _, ?_, ?_, ?_⟩
  · rw [hlen, cellsN_append]
    exact own_keep hown (Below.heap_setCell _ _ _ _ (by (try dsimp only); omega))
  · rw [hlen]
    exact blk_put ((hk _ (by omega) (by omega)).trans h.h6) 0 _ rfl
  · have hB : Below w.heap.size w W' := ⟨hg.os.trans h.hB.os, hg.tape.trans h.hB.tape, hg.output.trans h.hB.output, Nat.le_trans h.hB.size hg.size, fun i hi => (hk i (by omega) (by omega)).trans (h.hB.block i hi)⟩
    exact below_set hB (by (try dsimp only); omega)
theorem PrS.put {w W : World} {B m b3 b4 b5 bx b6 : Nat} {done : List SNode} {r4 : Value} {r5 : Int} (h : PrS w B m b3 b4 b5 bx b6 done r4 r5 W) (v : Value) (e : Int) : PrS w B m b3 b4 b5 bx b6 done v e ((W.setCell ⟨b4, 0, none⟩ v).setCell ⟨b5, 0, none⟩ (.int .i64 e)) := by
  have n3 := h.n3; have n4 := h.n4; have n5 := h.n5; have nx := h.nx; have n6 := h.n6
  exact ⟨n3, n4, n5, nx, n6, blk_far (blk_far h.h3 (by (try dsimp only); omega) _) (by (try dsimp only); omega) _, blk_far (blk_put h.h4 0 _ rfl) (by (try dsimp only); omega) _, blk_put (blk_far h.h5 (by (try dsimp only); omega) _) 0 _ rfl,
    own_keep (own_keep h.own (Below.heap_setCell _ _ _ _ (by (try dsimp only); omega))) (Below.heap_setCell _ _ _ _ (by (try dsimp only); omega)), blk_far (blk_far h.h6 (by (try dsimp only); omega) _) (by (try dsimp only); omega) _, below_set (below_set h.hB (by (try dsimp only); omega)) (by (try dsimp only); omega)⟩
theorem pairs_results (tmps : Array Value) (W : World) (g2 g3 : Nat) (v e : Value) (h4 : tmps.getD 4 undef = .pointer (some ⟨g2, 0, none⟩)) (h5 : tmps.getD 5 undef = .pointer (some ⟨g3, 0, none⟩)) (hg2 : W.heap[g2]? = some (.cells #[v] 22 (0, 0))) (hg3 : W.heap[g3]? = some (.cells #[e] 29 (0, 0))) :
    (results Tryd.f57 tmps).run Tryd.prog W = .ok (.tuple #[v, e]) W := by
  have h4' : tmps[4]?.getD undef = .pointer (some ⟨g2, 0, none⟩) := by simpa using h4
  have h5' : tmps[5]?.getD undef = .pointer (some ⟨g3, 0, none⟩) := by simpa using h5
  have hr : Tryd.f57.results = #[.cell 4 22, .cell 5 29] := rfl
  have hc : W.cell? ⟨g3, 0, none⟩ = some e := blk_cell hg3 0
  have hd : W.cell? ⟨g2, 0, none⟩ = some v := blk_cell hg2 0
  have hu := Tryd.underlying29
  have hu2 := Tryd.underlying22
  have h1 : (loadVar 22 ⟨g2, 0, none⟩).run Tryd.prog W = .ok v W := by go_simp
  have h2 : (loadVar 29 ⟨g3, 0, none⟩).run Tryd.prog W = .ok e W := by go_simp
  simp [results, hr, h4', h5', asAddr, h1, h2]
theorem pairs_retD {w W : World} {B m b3 b4 b5 bx b6 D : Nat} {done : List SNode} {r4 : Value} {r5 : Int} {tmps : Array Value} {R : Ending → World → Prop} (h : PrS w B m b3 b4 b5 bx b6 done r4 r5 W) (hD : w.heap.size + 4 < D) (hdf : W.heap[D]? = some (.deferred (some []))) (h4 : tmps.getD 4 undef = .pointer (some ⟨b4, 0, none⟩)) (h5 : tmps.getD 5 undef = .pointer (some ⟨b5, 0, none⟩))
    (hR : ∀ W', PrS w B m b3 b4 b5 bx b6 done r4 r5 W' → R (.returned (.tuple #[r4, .int .i64 r5])) W') : bodyPostM Fence.wide 3 Tryd.prog Tryd.f57 R .ret { tmps := tmps, defers := [{ target := .collected D, args := #[] }] } W := by
  have n4 := h.n4; have n5 := h.n5
  refine ⟨by simp, .inl ⟨_, _, rfl, run_takeDeferred hdf, ?_⟩⟩
  refine ⟨_, pairs_results _ _ _ _ _ _ h4 h5 ((World.putObj_heap_other (by omega)).trans h.h4) ((World.putObj_heap_other (by omega)).trans h.h5), hR _ ?_⟩
  exact h.keep (fun k hk => World.putObj_heap_other (by omega)) ⟨h.hB.os, h.hB.tape, h.hB.output, by simpa using h.hB.size, fun i hi => (World.putObj_heap_other (by omega)).trans (h.hB.block i hi)⟩
set_option maxRecDepth 100000 in
set_option maxHeartbeats 4000000 in
theorem pairs.calls (wd : Int) (B : Nat) (ad : Addr) (c m : Nat) (xl : List SNode) (w : World) (hK : Laid w) (hB : w.heap[B]? = some (.cells #[.int .i64 wd] 3 (0, 0))) (hl : xl.length = 2 * m) (hm1 : 1 ≤ m) (hm : m ≤ 1000000) (hc : xl.length ≤ c) (hr : Kd.C kNode w (some ad) xl.length xl) (hk : ∀ x ∈ xl, NodeK wd x) :
    Calls Tryd.prog 57 #[.slice (some ad) xl.length c, closV B] w fun e w' => Below w.heap.size w w' ∧
      ((pairsOk xl = true ∧ ∃ g cap, e = .returned (.tuple #[.slice (some ⟨g, 0, none⟩) m cap, .int .i64 0]) ∧ m ≤ cap ∧ Kd.C kNode w' (some ⟨g, 0, none⟩) m (pairsV wd xl)) ∨ (pairsOk xl = false ∧ e = .returned (.tuple #[.slice none 0 0, .int .i64 10]))) := by
  have HR := aM' hr
  have HK := aM' hK
  have HBX := aM' hB
  have HKN := aM' hk
  have HLL := aM' hl
  have HM1 := aM' hm1
  have HM := aM' hm
  have HC := aM' hc
  obtain ⟨i0, hi, hz0, hz1, hz2⟩ := info_parts nodeInfo
  have hhalf : ((xl.length : Int)).tdiv 2 = (m : Int) := by rw [Int.tdiv_eq_ediv_of_nonneg (by omega)]; omega
  have wm : wrap64 (m : Int) = (m : Int) := wrap64_id (by omega) (by omega)
  obtain ⟨cur, hcur, hmk⟩ := make_nodes m hm
  clear hr hK hB hk hl hm1 hm hc
  refine (callsIn_wide (n := 3)).1 ?_
  refine callsIn_of_wp_marks Tryd.func57 rfl trivial ?_ rfl
  simp only [Tryd.ntmps57, List.size_toArray, List.length_cons, List.length_nil, Nat.reduceAdd, Nat.reduceSub, Array.replicate_succ, Array.replicate_zero, List.push_toArray, List.append_toArray, List.nil_append, List.cons_append]
  gi_wp2_with fail
  have hP2 : PrS w B m w.heap.size (w.heap.size + 1) (w.heap.size + 1 + 1) (w.heap.size + 1 + 1 + 1) (w.heap.size + 1 + 1 + 1 + 1) [] (.slice none 0 0) 0 (((((w.alloc (.cells #[closV B] 111)).alloc (.cells #[.slice none 0 0] 22)).alloc (.cells #[.int .i64 0] 29)).alloc (.cells cur 28)).alloc (.cells #[.slice (some ⟨w.heap.size + 1 + 1 + 1, 0, none⟩) 0 m] 22)) := by
    refine ⟨rfl, rfl, rfl, rfl, rfl, blk_alloc (blk_alloc (blk_alloc (blk_alloc (blk_new w _) _) _) _) _, blk_alloc (blk_alloc (blk_alloc ?_ _) _) _, blk_alloc (blk_alloc ?_ _) _, own_keep (w := (((w.alloc (.cells #[closV B] 111)).alloc (.cells #[.slice none 0 0] 22)).alloc (.cells #[.int .i64 0] 29)).alloc (.cells cur 28)) ?_ (Below.heap_alloc _ _ _ (by simp)), ?_, below_alloc (below_alloc (below_alloc (below_alloc (below_alloc (Below.refl _ _) _) _) _) _) _⟩
    · have := blk_new (w.alloc (.cells #[closV B] 111)) (.cells #[.slice none 0 0] 22); rwa [World.size_alloc] at this
    · have := blk_new ((w.alloc (.cells #[closV B] 111)).alloc (.cells #[.slice none 0 0] 22)) (.cells #[.int .i64 0] 29); rwa [World.size_alloc, World.size_alloc] at this
    · have := World.ownsRow_made (base := w.heap.size) (e := 28) (size := 3) (((w.alloc (.cells #[closV B] 111)).alloc (.cells #[.slice none 0 0] 22)).alloc (.cells #[.int .i64 0] 29)) cur m (by simp; omega) (by have := HM.out; unfold maxLen; omega) hcur
      rw [World.size_alloc, World.size_alloc, World.size_alloc] at this
      exact this
    · have := blk_new ((((w.alloc (.cells #[closV B] 111)).alloc (.cells #[.slice none 0 0] 22)).alloc (.cells #[.int .i64 0] 29)).alloc (.cells cur 28)) (.cells #[.slice (some ⟨w.heap.size + 1 + 1 + 1, 0, none⟩) 0 m] 22); rwa [World.size_alloc, World.size_alloc, World.size_alloc, World.size_alloc] at this
  generalize (((((w.alloc (.cells #[closV B] 111)).alloc (.cells #[.slice none 0 0] 22)).alloc (.cells #[.int .i64 0] 29)).alloc (.cells cur 28)).alloc (.cells #[.slice (some ⟨w.heap.size + 1 + 1 + 1, 0, none⟩) 0 m] 22)) = w2 at hP2 ⊢
  clear hmk hcur
  have hnum := hP2.n6
  generalize w.heap.size + 1 + 1 + 1 + 1 = b6 at hP2 ⊢
  generalize w.heap.size + 1 + 1 + 1 = bx at hP2 ⊢
  generalize w.heap.size + 1 + 1 = b5 at hP2 ⊢
  generalize w.heap.size + 1 = b4 at hP2 ⊢
  generalize hb3 : w.heap.size = b3 at hP2 ⊢
  refine ⟨trivial, ?_⟩
  refine (callsIn_wide.2 (chunk.calls (some ad) xl.length c w2)).mono ?_
  rintro e w3 ⟨rfl, hw3⟩
  have hS : w3.heap[w2.heap.size]? = some (.cells #[.slice (some ad) xl.length c] 22 (0, 0)) := by rw [hw3]; exact blk_alloc (blk_new w2 _) _
  have hN : w3.heap[w2.heap.size + 1]? = some (.cells #[.int .i64 2] 3 (0, 0)) := by
    rw [hw3]
    have := blk_new (w2.alloc (.cells #[.slice (some ad) xl.length c] 22)) (.cells #[.int .i64 2] 3)
    rwa [World.size_alloc] at this
  have hP3 : PrS w B m b3 b4 b5 bx b6 [] (.slice none 0 0) 0 w3 := by rw [hw3]; exact hP2.below (below_alloc (below_alloc (Below.refl _ _) _) _)
  have hz3 : w3.heap.size = w2.heap.size + 2 := by rw [hw3]; simp
  have HL2 := aM' hP2.lt
  have HS := aM' hS
  have HN := aM' hN
  have HP3 := aM' hP3
  have HZ := aM' hz3
  have HB3 := aM' hb3
  clear hw3 hS hN hP3 hz3 hP2 hb3 hnum
  gi_wp2_with fail
  refine wpIn_rangeFunc_ownH (α := { j : Nat // j < m }) (n := 3) rfl (by omega) (gf := 133) (lb := #[.pointer (some ⟨w2.heap.size, 0, none⟩), .pointer (some ⟨w2.heap.size + 1, 0, none⟩)]) rfl trivial (enters_of Tryd.func133 (by kernel_rfl) rfl) (encs := fun x => #[chunkV ad x.1]) (Kp := KeepS (fun k => k = w2.heap.size ∨ k = w2.heap.size + 1))
    (S := fun xs => xs.map Subtype.val = List.range m) (Sp := fun pre => True) (N := m) (w0 := w3) ?hseq (fun h k => KeepS.trans h k) ?hKb (Below.refl _ _) (fun _ => rfl)
    (fun pre W => (∀ x ∈ pre, twoOk xl x.1) ∧ PrS w B m b3 b4 b5 bx b6 (pre.map fun x => twoV wd xl x.1) (.slice none 0 0) 0 W ∧ w3.heap.size ≤ W.heap.size)
    (fun c pre W => c = .ret ∧ (∃ x ∈ pre, ¬ twoOk xl x.1) ∧ ∃ done, PrS w B m b3 b4 b5 bx b6 done (.slice none 0 0) 10 W)
    ?hI ?hIx ⟨fun x hx => absurd hx (List.not_mem_nil), HP3.out, Nat.le_refl _⟩
    (fun x a' W => a' = ({ tmps := #[.slice (some ad) xl.length c, closV B, undef, .pointer (some ⟨b3, 0, none⟩), .pointer (some ⟨b4, 0, none⟩), .pointer (some ⟨b5, 0, none⟩), .pointer (some ⟨b6, 0, none⟩), chunkV ad x.1, undef, undef, .slice (some ad) xl.length c, .int .i64 (xl.length : Int), .int .i64 (m : Int), .slice (some ⟨bx, 0, none⟩) 0 m, .slice (some ad) xl.length c, .func (.func 133) #[] #[.pointer (some ⟨w2.heap.size, 0, none⟩), .pointer (some ⟨w2.heap.size + 1, 0, none⟩)], chunkV ad x.1, undef, undef, undef, undef, undef, undef, undef, undef, undef, undef, undef, undef, undef, undef, undef, undef, undef, undef, undef], defers := [] } : Act)) ?hAx ?assign ?body ?done ?stop
  case hKb =>
    intro W l2 o o' hl2 ho hc hw k hk
    have := HZ.out
    exact World.putObj_heap_other (by rcases hk with rfl | rfl <;> omega)
  case hI =>
    rintro s X Y row ⟨h1, h2, h3⟩ hg hr
    exact ⟨h1, h2.grown hg (by rw [HZ.out]; have := HL2.out; omega) (fun r e => (hr r e).1), Nat.le_trans h3 hg.size⟩
  case hIx =>
    rintro c2 s X Y row ⟨rfl, h1, dn, h2⟩ hg hr
    exact ⟨rfl, h1, dn, h2.grown hg (by rw [HZ.out]; have := HL2.out; omega) (fun r e => (hr r e).1)⟩
  case hAx =>
    rintro x a' s X Y row h hg hr
    exact h
  case hseq =>
    intro l2 J Jx W hW hJ hJx hY h0
    refine (chunk1_in 2 (by omega) l2 w2.heap.size (w2.heap.size + 1) W.heap.size ad m xl.length c HLL.out HM.out HC.out (fun k => k = w2.heap.size ∨ k = w2.heap.size + 1) (.inl rfl) (.inr rfl)
      (fun pre W => ∃ pre' : List { j : Nat // j < m }, pre'.map Subtype.val = pre ∧ J pre' W) (fun pre W => ∃ pre' : List { j : Nat // j < m }, pre'.map Subtype.val = pre ∧ Jx pre' W)
      (fun s X Y row ⟨pre', e, h⟩ hg hr => ⟨pre', e, hJ _ _ _ row h hg hr⟩) ?_ W (blk_below HS.out hW) (blk_below HN.out hW) ⟨[], rfl, h0⟩).mono ?_
    · rintro j W1 ⟨pre', e1, hj⟩ hlt
      have hpl : pre'.length = j := by have := congrArg List.length e1; simpa using this
      obtain ⟨fn, tmps, asg, bd, hy, hR⟩ := hY pre' ⟨j, hlt⟩ W1 hj (by omega)
      refine ⟨fn, tmps, asg, bd, hy, hR.mono ?_⟩
      rintro e W2 (⟨rfl, h1, h2⟩ | ⟨rfl, h1⟩)
      · exact .inl ⟨rfl, ⟨_, by rw [List.map_append, e1, List.range_succ]; rfl, h1⟩, h2⟩
      · exact .inr ⟨rfl, ⟨_, by rw [List.map_append, e1, List.range_succ]; rfl, h1⟩⟩
    · rintro e W2 ⟨hv, ⟨ys', e1, h1⟩ | ⟨j, hj, pre', e1, h1⟩⟩
      · exact ⟨hv, .inl ⟨ys', e1, h1⟩⟩
      · exact ⟨hv, .inr ⟨pre', trivial, h1⟩⟩
  case assign =>
    rintro l2 pre x W K hI hK
    gi_wp2
    exact hK _ _ (KeepsFrom.refl _ _) (fun k hk => rfl) hI rfl
  case body =>
    rintro l2 pre ⟨j, hj⟩ a' Wb hl2 - ⟨hok, hP, hz⟩ rfl hlen
    have hjl : 2 * j + 1 < xl.length := by have := HLL.out; omega
    obtain ⟨na, ha⟩ : ∃ na, na = xl.getD (2 * j) zeroN := ⟨_, rfl⟩
    obtain ⟨nb, hb⟩ : ∃ nb, nb = xl.getD (2 * j + 1) zeroN := ⟨_, rfl⟩
    obtain ⟨ap, hap⟩ : ∃ ap, ap = ad.add (2 * j * 3) := ⟨_, rfl⟩
    have hka : NodeK wd na := HKN.out _ (by rw [ha]; have h1 : xl.getD (2 * j) zeroN = xl[2 * j]'(by omega) := (by simp [List.getD_eq_getElem?_getD, show 2 * j < xl.length by omega]); rw [h1]; exact List.getElem_mem _)
    have hkb : NodeK wd nb := HKN.out _ (by rw [hb]; have h1 : xl.getD (2 * j + 1) zeroN = xl[2 * j + 1] := (by simp [List.getD_eq_getElem?_getD, hjl]); rw [h1]; exact List.getElem_mem _)
    have htw : twoV wd xl j = joinV wd na nb := by rw [ha, hb]; rfl
    have hto : twoOk xl j ↔ valU na.f1 + valU nb.f1 < 340282366920938463463374607431768211456 := by rw [ha, hb]; rfl
    have HT := fun (V : World) (hV : Below w.heap.size w V) => two_at' (Kd.C_below HR.out hV) j hjl na nb ha hb ap hap
    have hch : chunkV ad j = .slice (some ap) 2 2 := by rw [hap]; rfl
    have HT := aM' HT
    have HKA := aM' hka
    have HKB := aM' hkb
    have HTW := aM' htw
    have HTO := aM' hto
    have HOK := aM' hok
    have HP := aM' hP
    have HZZ := aM' hz
    have HLEN := aM' hlen
    dsimp only
    rw [hch]
    clear ha hb hap hka hkb htw hto hok hP hz hlen hch hjl
    rcases hjn : joinI wd na nb with ⟨r1, r2, r3, r4⟩
    have HJN := aM' hjn
    clear hjn
    gi_wp2
    refine region_invIn (fun l a W => ∃ γ : Nat, a = ({ tmps := #[.slice (some ad) xl.length c, closV B, undef, .pointer (some ⟨b3, 0, none⟩), .pointer (some ⟨b4, 0, none⟩), .pointer (some ⟨b5, 0, none⟩), .pointer (some ⟨b6, 0, none⟩), .slice (some ap) 2 2, sel (l 11) (.pointer (some ⟨γ, 0, none⟩)) (undef), sel (l 13) (.int .i64 r4) (undef), .slice (some ad) xl.length c, .int .i64 (xl.length : Int), .int .i64 (m : Int), .slice (some ⟨bx, 0, none⟩) 0 m, .slice (some ad) xl.length c, .func (.func 133) #[] #[.pointer (some ⟨w2.heap.size, 0, none⟩), .pointer (some ⟨w2.heap.size + 1, 0, none⟩)], .slice (some ap) 2 2, sel (l 8) (.tuple #[.agg #[.string r1, .int .u64 r2, .int .u64 r3], .int .i64 r4]) (undef), sel (l 0) (closV B) (undef), sel (l 1) (.slice (some ap) 2 2) (undef), sel (l 2) (.pointer (some ap)) (undef), sel (l 3) (.agg #[.string na.f0, .int .u64 na.f1.f0, .int .u64 na.f1.f1]) (undef), sel (l 4) (.slice (some ap) 2 2) (undef), sel (l 5) (.pointer (some (ap.add 3))) (undef), sel (l 6) (.agg #[.string nb.f0, .int .u64 nb.f1.f0, .int .u64 nb.f1.f1]) (undef), sel (l 7) (.tuple #[.agg #[.string r1, .int .u64 r2, .int .u64 r3], .int .i64 r4]) (undef), sel (l 9) (.agg #[.string r1, .int .u64 r2, .int .u64 r3]) (undef), sel (l 10) (.int .i64 r4) (undef), undef, undef, undef, undef, undef, undef, undef, undef], defers := [] } : Act) ∧ Pr4 Wb W ⟨r1, ⟨r2, r3⟩⟩ l γ) 14 rfl rfl (by kernel_rfl) ?h0 ?hend ?hstep
    case h0 => exact ⟨0, rfl, below_drew (Below.refl _ _), (fun h => by cases h), (fun h => by cases h)⟩
    case hstep =>
      refine rg_cons (rg_cons (rg_cons (rg_cons (rg_cons (rg_cons (rg_cons (rg_cons (rg_cons (rg_cons (rg_cons (rg_cons (rg_cons (rg_cons (rg_nil) ?s0) ?s1) ?s2) ?s3) ?s4) ?s5) ?s6) ?s7) ?s8) ?s9) ?s10) ?s11) ?s12) ?s13
      case s0 =>
        refine rgi_step rfl ?_
        rintro l a W ⟨γ, rfl, hI⟩ hl hd
        clear hd
        have x0 := blk_cell ((HP.out.below hI.hB).h3) 0
        simp at x0
        refine rgi_val (v := closV B) (w' := W) (fun _ => trivial) rfl (fun _ h => by cases h) (by go_simp) ?_
        refine ⟨γ, ?_, ?_⟩
        · simp only [Act.put, List.setIfInBounds_toArray, List.set_cons_zero, List.set_cons_succ]; rfl
        · exact hI.other _ (by decide) (by decide) (Below.refl _ _)
      case s1 =>
        refine rgi_step rfl ?_
        rintro l a W ⟨γ, rfl, hI⟩ hl hd
        clear hd
        refine rgi_val (v := .slice (some ap) 2 2) (w' := W) (fun _ => trivial) rfl (fun _ h => by cases h) (by go_simp) ?_
        refine ⟨γ, ?_, ?_⟩
        · simp only [Act.put, List.setIfInBounds_toArray, List.set_cons_zero, List.set_cons_succ]; rfl
        · exact hI.other _ (by decide) (by decide) (Below.refl _ _)
      case s2 =>
        refine rgi_step rfl ?_
        rintro l a W ⟨γ, rfl, hI⟩ hl hd
        have d1 := hd 1 (by decide)
        clear hd
        refine rgi_val (v := .pointer (some ap)) (w' := W) (fun _ => trivial) rfl (fun _ h => by cases h) (by go_simp) ?_
        refine ⟨γ, ?_, ?_⟩
        · simp only [Act.put, List.setIfInBounds_toArray, List.set_cons_zero, List.set_cons_succ]; rfl
        · exact hI.other _ (by decide) (by decide) (Below.refl _ _)
      case s3 =>
        refine rgi_step rfl ?_
        rintro l a W ⟨γ, rfl, hI⟩ hl hd
        have d2 := hd 2 (by decide)
        clear hd
        obtain ⟨⟨x0, x1, x2⟩, y0, y1, y2⟩ := HT.out W (HP.out.hB.trans (hI.hB.mono HP.out.hB.size))
        refine rgi_val (v := .agg #[.string na.f0, .int .u64 na.f1.f0, .int .u64 na.f1.f1]) (w' := W) (fun _ => trivial) rfl (fun _ h => by cases h) (by go_simp) ?_
        refine ⟨γ, ?_, ?_⟩
        · simp only [Act.put, List.setIfInBounds_toArray, List.set_cons_zero, List.set_cons_succ]; rfl
        · exact hI.other _ (by decide) (by decide) (Below.refl _ _)
      case s4 =>
        refine rgi_step rfl ?_
        rintro l a W ⟨γ, rfl, hI⟩ hl hd
        clear hd
        refine rgi_val (v := .slice (some ap) 2 2) (w' := W) (fun _ => trivial) rfl (fun _ h => by cases h) (by go_simp) ?_
        refine ⟨γ, ?_, ?_⟩
        · simp only [Act.put, List.setIfInBounds_toArray, List.set_cons_zero, List.set_cons_succ]; rfl
        · exact hI.other _ (by decide) (by decide) (Below.refl _ _)
      case s5 =>
        refine rgi_step rfl ?_
        rintro l a W ⟨γ, rfl, hI⟩ hl hd
        have d4 := hd 4 (by decide)
        clear hd
        refine rgi_val (v := .pointer (some (ap.add 3))) (w' := W) (fun _ => trivial) rfl (fun _ h => by cases h) (by go_simp) ?_
        refine ⟨γ, ?_, ?_⟩
        · simp only [Act.put, List.setIfInBounds_toArray, List.set_cons_zero, List.set_cons_succ]; rfl
        · exact hI.other _ (by decide) (by decide) (Below.refl _ _)
      case s6 =>
        refine rgi_step rfl ?_
        rintro l a W ⟨γ, rfl, hI⟩ hl hd
        have d5 := hd 5 (by decide)
        clear hd
        obtain ⟨⟨x0, x1, x2⟩, y0, y1, y2⟩ := HT.out W (HP.out.hB.trans (hI.hB.mono HP.out.hB.size))
        refine rgi_val (v := .agg #[.string nb.f0, .int .u64 nb.f1.f0, .int .u64 nb.f1.f1]) (w' := W) (fun _ => trivial) rfl (fun _ h => by cases h) (by go_simp) ?_
        refine ⟨γ, ?_, ?_⟩
        · simp only [Act.put, List.setIfInBounds_toArray, List.set_cons_zero, List.set_cons_succ]; rfl
        · exact hI.other _ (by decide) (by decide) (Below.refl _ _)
      case s7 =>
        refine rgi_step rfl ?_
        rintro l a W ⟨γ, rfl, hI⟩ hl hd
        have d0 := hd 0 (by decide)
        have d3 := hd 3 (by decide)
        have d6 := hd 6 (by decide)
        clear hd
        refine rgi_call (fun _ => trivial) rfl rfl (fun _ h => by cases h) (by go_simp; exact ⟨rfl, rfl⟩) ?_
        refine (CallsIn.inRound l2 (callsIn_wide.2 (fold1.calls wd B na nb W (blk_below HBX.out (HP.out.hB.trans (hI.hB.mono HP.out.hB.size))) (HK.out.below (HP.out.hB.trans (hI.hB.mono HP.out.hB.size))) HKA.out.u HKB.out.u))).mono ?_
        rintro x W' ⟨rfl, hb⟩
        rw [HJN.out]
        refine ⟨_, rfl, γ, ?_, ?_⟩
        · simp only [Act.put, List.setIfInBounds_toArray, List.set_cons_zero, List.set_cons_succ]; rfl
        · exact hI.other 7 (by decide) (by decide) hb
      case s8 =>
        refine rgi_step rfl ?_
        rintro l a W ⟨γ, rfl, hI⟩ hl hd
        have d7 := hd 7 (by decide)
        clear hd
        refine rgi_val (v := .tuple #[.agg #[.string r1, .int .u64 r2, .int .u64 r3], .int .i64 r4]) (w' := W) (fun _ => trivial) rfl (fun _ h => by cases h) (by go_simp) ?_
        refine ⟨γ, ?_, ?_⟩
        · simp only [Act.put, List.setIfInBounds_toArray, List.set_cons_zero, List.set_cons_succ]; rfl
        · exact hI.other _ (by decide) (by decide) (Below.refl _ _)
      case s9 =>
        refine rgi_step rfl ?_
        rintro l a W ⟨γ, rfl, hI⟩ hl hd
        have d8 := hd 8 (by decide)
        clear hd
        refine rgi_val (v := .agg #[.string r1, .int .u64 r2, .int .u64 r3]) (w' := W) (fun _ => trivial) rfl (fun _ h => by cases h) (by go_simp) ?_
        refine ⟨γ, ?_, ?_⟩
        · simp only [Act.put, List.setIfInBounds_toArray, List.set_cons_zero, List.set_cons_succ]; rfl
        · exact hI.other _ (by decide) (by decide) (Below.refl _ _)
      case s10 =>
        refine rgi_step rfl ?_
        rintro l a W ⟨γ, rfl, hI⟩ hl hd
        have d8 := hd 8 (by decide)
        clear hd
        refine rgi_val (v := .int .i64 r4) (w' := W) (fun _ => trivial) rfl (fun _ h => by cases h) (by go_simp) ?_
        refine ⟨γ, ?_, ?_⟩
        · simp only [Act.put, List.setIfInBounds_toArray, List.set_cons_zero, List.set_cons_succ]; rfl
        · exact hI.other _ (by decide) (by decide) (Below.refl _ _)
      case s11 =>
        refine rgi_step rfl ?_
        rintro l a W ⟨γ, rfl, hI⟩ hl hd
        clear hd
        refine rgi_val (v := .pointer (some ⟨W.heap.size, 0, none⟩)) (w' := W.alloc (.cells #[.string ⟨#[]⟩, .int .u64 0, .int .u64 0] 28 (0, 0))) (fun _ => trivial) rfl (fun _ h => by cases h) (by go_simp) ?_
        refine ⟨W.heap.size, ?_, ?_⟩
        · simp only [Act.put, List.setIfInBounds_toArray, List.set_cons_zero, List.set_cons_succ]; rfl
        · exact hI.alloc hl
      case s12 =>
        refine rgi_step rfl ?_
        rintro l a W ⟨γ, rfl, hI⟩ hl hd
        have d11 := hd 11 (by decide)
        have d9 := hd 9 (by decide)
        clear hd
        have hg := (hI.hg d11).2
        rw [show l 12 = false from hl, if_neg (by decide)] at hg
        have y0 := blk_cell hg 0
        have y1 := blk_cell hg 1
        have y2 := blk_cell hg 2
        have yf := fun i => blk_frozen hg i
        simp at y0 y1 y2
        refine rgi_skip (fun _ => trivial) rfl (fun _ h => by cases h) (by go_simp; rfl) ?_
        refine ⟨γ, ?_, ?_⟩
        · simp only [Act.put, List.setIfInBounds_toArray, List.set_cons_zero, List.set_cons_succ]; rfl
        · exact hI.store d11 hl
      case s13 =>
        refine rgi_step rfl ?_
        rintro l a W ⟨γ, rfl, hI⟩ hl hd
        have d10 := hd 10 (by decide)
        clear hd
        refine rgi_val (v := .int .i64 r4) (w' := W) (fun _ => trivial) rfl (fun _ h => by cases h) (by go_simp) ?_
        refine ⟨γ, ?_, ?_⟩
        · simp only [Act.put, List.setIfInBounds_toArray, List.set_cons_zero, List.set_cons_succ]; rfl
        · exact hI.other _ (by decide) (by decide) (Below.refl _ _)
    case hend =>
      rintro l a W ⟨γ, rfl, hI⟩ hall
      have e0 := hall 0 (by decide)
      have e1 := hall 1 (by decide)
      have e2 := hall 2 (by decide)
      have e3 := hall 3 (by decide)
      have e4 := hall 4 (by decide)
      have e5 := hall 5 (by decide)
      have e6 := hall 6 (by decide)
      have e7 := hall 7 (by decide)
      have e8 := hall 8 (by decide)
      have e9 := hall 9 (by decide)
      have e10 := hall 10 (by decide)
      have e11 := hall 11 (by decide)
      have e12 := hall 12 (by decide)
      have e13 := hall 13 (by decide)
      clear hall
      have hD := hI.hg e11
      rw [if_pos e12] at hD
      obtain ⟨hγ, hγc⟩ := hD
      have hBb := hI.hB
      have hP5 := HP.out.below hBb
      have HBb := aM' hBb
      have HP5 := aM' hP5
      have HG := aM' hγ
      have HGC := aM' hγc
      clear hI hγ hγc hBb hP5 HP
      simp only [e0, e1, e2, e3, e4, e5, e6, e7, e8, e9, e10, e11, e12, e13, sel_true]
      clear e0 e1 e2 e3 e4 e5 e6 e7 e8 e9 e10 e11 e12 e13
      obtain ⟨dn, hdn⟩ : ∃ dn, (pre.map fun x => twoV wd xl x.1) = dn := ⟨_, rfl⟩
      rw [hdn] at HP5
      have hdl : dn.length = pre.length := by rw [← hdn]; simp
      have HDN := aM' hdn
      have HDL := aM' hdl
      have hnx := HP5.out.nx
      have hn6 := HP5.out.n6
      have hn4 := HP5.out.n4
      have hn5 := HP5.out.n5
      have hlt := HP5.out.lt
      have hl2 := HL2.out
      have hbz := HBb.out.size
      have hzz := HZZ.out
      have hz2 := HZ.out
      have hfar : ∀ k, (k = w2.heap.size ∨ k = w2.heap.size + 1) → k < Wb.heap.size ∧ k ≠ bx ∧ k ≠ b6 ∧ k ≠ b4 ∧ k ≠ b5 := by rintro k (rfl | rfl) <;> omega
      have HFAR := aM' hfar
      have HNX := aM' (show bx < w3.heap.size ∧ b6 < w3.heap.size ∧ b4 < w3.heap.size ∧ b5 < w3.heap.size ∧ bx < W.heap.size ∧ b6 < W.heap.size ∧ b6 ≠ bx from ⟨by omega, by omega, by omega, by omega, by omega, by omega, by omega⟩)
      have y6 : W.cell? ⟨b6, 0, none⟩ = some (.slice (some ⟨bx, 0, none⟩) dn.length m) := blk_cell HP5.out.h6 0
      have y0 : W.cell? ⟨γ, 0, none⟩ = some (.string r1) := blk_cell HGC.out 0
      have y1 : W.cell? ⟨γ, 1, none⟩ = some (.int .u64 r2) := blk_cell HGC.out 1
      have y2 : W.cell? ⟨γ, 2, none⟩ = some (.int .u64 r3) := blk_cell HGC.out 2
      clear hnx hn6 hn4 hn5 hlt hl2 hbz hzz hz2 hfar hdn hdl
      by_cases h0 : r4 = 0
      · subst h0
        have hroom : valU na.f1 + valU nb.f1 < 340282366920938463463374607431768211456 := by
          rcases Int.lt_or_le (valU na.f1 + valU nb.f1) 340282366920938463463374607431768211456 with h | h
          · exact h
          · have := joinI_full HKA.out HKB.out (by omega)
            rw [HJN.out] at this
            simp at this
        have hjv : (⟨r1, ⟨r2, r3⟩⟩ : SNode) = joinV wd na nb := by
          have := joinI_room HKA.out HKB.out hroom
          rw [HJN.out] at this
          simp only [Prod.mk.injEq] at this
          obtain ⟨e1, e2, e3, -⟩ := this
          rw [e1, e2, e3]
        have HRM := aM' hroom
        have HJV := aM' hjv
        clear hroom hjv
        gi_upto_region 7 with (fail)
        refine wpIn_region_list ?_
        refine li_val (v := .slice (some ⟨bx, 0, none⟩) dn.length m) (w' := W) rfl (fun _ => trivial) (fun _ h => by cases h) (by go_simp; done) ?_
        refine li_val (v := .agg #[.string r1, .int .u64 r2, .int .u64 r3]) (w' := W) rfl (fun _ => trivial) (fun _ h => by cases h) (by go_simp; done) ?_
        refine li_val (v := .slice (some ⟨W.heap.size, 0, none⟩) 1 1) (w' := W.alloc (.cells #[.string r1, .int .u64 r2, .int .u64 r3] 28 (0, 0))) rfl (fun _ => trivial) (fun _ h => by cases h) (by go_simp; done) ?_
        refine wpListIn_append_fits _ rfl _ _ 22 rfl w.heap.size 28 i0 3 Tryd.underlying22 hi hz1 bx dn.length m (cellsN dn) rfl ?own ⟨W.heap.size, 0, none⟩ 1 1 [.string r1, .int .u64 r2, .int .u64 r3] rfl rfl ?cells ?one ?room ?_
        (case own => exact own_keep HP5.out.own (Below.heap_alloc _ _ _ HNX.out.2.2.2.2.1))
        (case cells => exact World.news_of_block (blk_new W _))
        (case one => intro u hu; simp at hu; rcases hu with rfl | rfl | rfl <;> rfl)
        (case room => have h1 := HLEN.out; have h2 := HDL.out; omega)
        intro w7 hown hgr
        have HOWN := aM' hown
        have HGR := aM' hgr
        have hz6 := (hgr.block b6 (by rw [World.size_alloc]; exact Nat.lt_succ_of_lt HNX.out.2.2.2.2.2.1) (fun e => HNX.out.2.2.2.2.2.2 (Option.some.inj e))).trans (blk_alloc HP5.out.h6 _)
        have z6 : w7.cell? ⟨b6, 0, none⟩ = some (.slice (some ⟨bx, 0, none⟩) dn.length m) := blk_cell hz6 0
        have zf : ∀ i, w7.frozen? ⟨b6, i, none⟩ = false := fun i => blk_frozen hz6 i
        clear hown hgr hz6
        refine li_skip (w' := w7.setCell ⟨b6, 0, none⟩ (.slice (some ⟨bx, 0, none⟩) (dn.length + 1) m)) rfl (fun _ => trivial) (fun _ h => by cases h) (by go_simp; first | done | rfl) ?_
        gi_wp2
        have hend := bar_trans (bar_alloc (bar_below HBb.out bx) (.cells #[.string r1, .int .u64 r2, .int .u64 r3] 28)) HGR.out
        refine ⟨(KeepsFrom.of_grownBy hend (fun j e => by have := Option.some.inj e; have := HNX.out; omega)).trans (KeepsFrom.of_grownBy (grownBy_setCell' _ b6 _) (fun j e => by have := Option.some.inj e; have := HNX.out; omega)), ?_, ?_, ?_, ?_⟩
        · intro k hk
          have hf := HFAR.out k hk
          exact (Below.heap_setCell _ _ _ _ hf.2.2.1).trans (hend.block k hf.1 (fun e => hf.2.1 (Option.some.inj e)))
        · intro y hy
          rcases List.mem_append.1 hy with hy | hy
          · exact HOK.out y hy
          · obtain rfl := List.mem_singleton.1 hy
            exact HTO.out.2 HRM.out
        · have hm := (HP5.out.below (below_alloc (Below.refl _ _) (.cells #[.string r1, .int .u64 r2, .int .u64 r3] 28))).more ⟨r1, ⟨r2, r3⟩⟩ HGR.out HOWN.out
          rw [List.map_append, HDN.out]
          have hx : (List.map (fun x : { j : Nat // j < m } => twoV wd xl x.1) [⟨j, hj⟩]) = [⟨r1, ⟨r2, r3⟩⟩] := by rw [HJV.out, ← HTW.out]; rfl
          rw [hx]
          exact hm
        · exact Nat.le_trans HZZ.out (Nat.le_trans hend.size (by simp))
      · have b1 : (r4 != 0) = true := by simp [h0]
        have hroom : ¬ valU na.f1 + valU nb.f1 < 340282366920938463463374607431768211456 := fun h => by
          have := joinI_room HKA.out HKB.out h
          rw [HJN.out] at this
          simp only [Prod.mk.injEq] at this
          exact h0 this.2.2.2
        have h10 : r4 = 10 := by
          have := joinI_full HKA.out HKB.out hroom
          rw [HJN.out] at this
          simp only [Prod.mk.injEq] at this
          exact this.2.2.2
        have HRM := aM' hroom
        clear hroom
        have y4 : W.cell? ⟨b4, 0, none⟩ = some (.slice none 0 0) := blk_cell HP5.out.h4 0
        have f4 : ∀ i, W.frozen? ⟨b4, i, none⟩ = false := fun i => blk_frozen HP5.out.h4 i
        have y5 : W.cell? ⟨b5, 0, none⟩ = some (.int .i64 0) := blk_cell HP5.out.h5 0
        have f5 : ∀ i, W.frozen? ⟨b5, i, none⟩ = false := fun i => blk_frozen HP5.out.h5 i
        have n45 : b5 ≠ b4 := by have h1 := HP5.out.n4; have h2 := HP5.out.n5; omega
        gi_wp2
        refine ⟨(KeepsFrom.of_grownBy (bar_set (bar_below HBb.out b4) (a := ⟨b4, 0, none⟩) (.inl rfl)) (fun j e => by have := Option.some.inj e; have := HNX.out; omega)).trans (KeepsFrom.of_grownBy (grownBy_setCell' _ b5 _) (fun j e => by have := Option.some.inj e; have := HNX.out; omega)), rfl, ⟨j, ⟨hj, by simp⟩, fun h => absurd (HTO.out.1 h) (by have := HRM.out; omega)⟩, dn, by first | exact HP5.out.put _ 10 | (rw [h10]; exact HP5.out.put _ 10)⟩
  case done =>
    rintro D xs W hD hxs ⟨hok, hP, hz⟩ hdf
    have hdn : (xs.map fun x => twoV wd xl x.1) = pairsV wd xl := by
      rw [pairsV_range wd m xl HLL.out, ← hxs, List.map_map]; rfl
    have hpo : pairsOk xl = true := (pairsOk_range m xl HLL.out).2 (fun j hj => by
      have h1 : j ∈ xs.map Subtype.val := by rw [hxs]; exact List.mem_range.2 hj
      obtain ⟨x, hx, rfl⟩ := List.mem_map.1 h1
      exact hok x hx)
    rw [hdn] at hP
    have hlen : (pairsV wd xl).length = m := pairsV_len wd m xl HLL.out
    obtain ⟨dn, hdd⟩ : ∃ dn, pairsV wd xl = dn := ⟨_, rfl⟩
    rw [hdd] at hP hlen
    have HDD := aM' hdd
    clear hdd
    have y6 : W.cell? ⟨b6, 0, none⟩ = some (.slice (some ⟨bx, 0, none⟩) dn.length m) := blk_cell hP.h6 0
    have y4 : W.cell? ⟨b4, 0, none⟩ = some (.slice none 0 0) := blk_cell hP.h4 0
    have f4 : ∀ i, W.frozen? ⟨b4, i, none⟩ = false := fun i => blk_frozen hP.h4 i
    have y5 : W.cell? ⟨b5, 0, none⟩ = some (.int .i64 0) := blk_cell hP.h5 0
    have f5 : ∀ i, W.frozen? ⟨b5, i, none⟩ = false := fun i => blk_frozen hP.h5 i
    have h4 := hP.n4
    have h5 := hP.n5
    have n45 : b5 ≠ b4 := by omega
    have hDn : w.heap.size + 4 < D := by have := HZ.out; have := HL2.out; omega
    have HP := aM' hP
    have HDF := aM' hdf
    have HPO := aM' hpo
    have HLEN := aM' hlen
    have HDN := aM' hDn
    have H45 := aM' (show D ≠ b4 ∧ D ≠ b5 from ⟨by omega, by omega⟩)
    clear hok hP hz hdf hdn hpo hxs hD hlen h4 h5 hDn
    gi_wp2
    refine pairs_retD (HP.out.put (.slice (some ⟨bx, 0, none⟩) dn.length m) 0) HDN.out ((Below.heap_setCell _ _ _ _ H45.out.2).trans ((Below.heap_setCell _ _ _ _ H45.out.1).trans HDF.out)) rfl rfl (fun W' h => ⟨h.hB, .inl ⟨HPO.out, bx, m, ?_, Nat.le_refl _, ?_⟩⟩)
    · rw [HLEN.out]
    · have := (ownNodes_C h.own).2.2
      rw [HLEN.out] at this
      rw [HDD.out]
      exact this
  case stop =>
    rintro D c2 pre W hD - ⟨rfl, ⟨x, hx, hno⟩, dn, hP⟩ hdf
    have hpo : pairsOk xl = false := by
      cases h : pairsOk xl with
      | false => rfl
      | true => exact absurd ((pairsOk_range m xl HLL.out).1 h x.1 x.2) hno
    have hDn : w.heap.size + 4 < D := by have := HZ.out; have := HL2.out; omega
    have HP := aM' hP
    have HDF := aM' hdf
    have HPO := aM' hpo
    have HDN := aM' hDn
    clear hno hP hdf hpo hDn
    gi_wp2
    exact pairs_retD HP.out HDN.out HDF.out rfl rfl (fun W' h => ⟨h.hB, .inr ⟨HPO.out, rfl⟩⟩)
end Go.Proofs.YtijfifphcchbbaaDoor.P
namespace Go.Proofs.YtijfifphcchbbaaDoor.P
open Go.RowKit Go.Proofs.YtijfifphcchbbaaDoorW.PrintWords Go.Proofs.YtijfifphcchbbaaDoorW.PrintLast Go.Proofs.YtijfifphcchbbaaDoorW.PrintMore
set_option linter.unusedVariables false
set_option linter.unusedSimpArgs false
set_option linter.unnecessarySimpa false
def onesI (a0 : Int) : Int := (Go.bits .and .i64 (wrap64 (IntKind.u64.wrap ((IntKind.u64.wrap ((IntKind.u64.wrap ((Go.bits .and .u64 (IntKind.u64.wrap (((IntKind.u64.wrap ((Go.bits .and .u64 ((IntKind.u64.wrap ((Go.bits .and .u64 (a0 / 2) 6148914691236517205) + (Go.bits .and .u64 a0 6148914691236517205))) / 4) 3689348814741910323) + (Go.bits .and .u64 (IntKind.u64.wrap ((Go.bits .and .u64 (a0 / 2) 6148914691236517205) + (Go.bits .and .u64 a0 6148914691236517205))) 3689348814741910323))) / 16) + (IntKind.u64.wrap ((Go.bits .and .u64 ((IntKind.u64.wrap ((Go.bits .and .u64 (a0 / 2) 6148914691236517205) + (Go.bits .and .u64 a0 6148914691236517205))) / 4) 3689348814741910323) + (Go.bits .and .u64 (IntKind.u64.wrap ((Go.bits .and .u64 (a0 / 2) 6148914691236517205) + (Go.bits .and .u64 a0 6148914691236517205))) 3689348814741910323))))) 1085102592571150095) + ((Go.bits .and .u64 (IntKind.u64.wrap (((IntKind.u64.wrap ((Go.bits .and .u64 ((IntKind.u64.wrap ((Go.bits .and .u64 (a0 / 2) 6148914691236517205) + (Go.bits .and .u64 a0 6148914691236517205))) / 4) 3689348814741910323) + (Go.bits .and .u64 (IntKind.u64.wrap ((Go.bits .and .u64 (a0 / 2) 6148914691236517205) + (Go.bits .and .u64 a0 6148914691236517205))) 3689348814741910323))) / 16) + (IntKind.u64.wrap ((Go.bits .and .u64 ((IntKind.u64.wrap ((Go.bits .and .u64 (a0 / 2) 6148914691236517205) + (Go.bits .and .u64 a0 6148914691236517205))) / 4) 3689348814741910323) + (Go.bits .and .u64 (IntKind.u64.wrap ((Go.bits .and .u64 (a0 / 2) 6148914691236517205) + (Go.bits .and .u64 a0 6148914691236517205))) 3689348814741910323))))) 1085102592571150095) / 256))) + ((IntKind.u64.wrap ((Go.bits .and .u64 (IntKind.u64.wrap (((IntKind.u64.wrap ((Go.bits .and .u64 ((IntKind.u64.wrap ((Go.bits .and .u64 (a0 / 2) 6148914691236517205) + (Go.bits .and .u64 a0 6148914691236517205))) / 4) 3689348814741910323) + (Go.bits .and .u64 (IntKind.u64.wrap ((Go.bits .and .u64 (a0 / 2) 6148914691236517205) + (Go.bits .and .u64 a0 6148914691236517205))) 3689348814741910323))) / 16) + (IntKind.u64.wrap ((Go.bits .and .u64 ((IntKind.u64.wrap ((Go.bits .and .u64 (a0 / 2) 6148914691236517205) + (Go.bits .and .u64 a0 6148914691236517205))) / 4) 3689348814741910323) + (Go.bits .and .u64 (IntKind.u64.wrap ((Go.bits .and .u64 (a0 / 2) 6148914691236517205) + (Go.bits .and .u64 a0 6148914691236517205))) 3689348814741910323))))) 1085102592571150095) + ((Go.bits .and .u64 (IntKind.u64.wrap (((IntKind.u64.wrap ((Go.bits .and .u64 ((IntKind.u64.wrap ((Go.bits .and .u64 (a0 / 2) 6148914691236517205) + (Go.bits .and .u64 a0 6148914691236517205))) / 4) 3689348814741910323) + (Go.bits .and .u64 (IntKind.u64.wrap ((Go.bits .and .u64 (a0 / 2) 6148914691236517205) + (Go.bits .and .u64 a0 6148914691236517205))) 3689348814741910323))) / 16) + (IntKind.u64.wrap ((Go.bits .and .u64 ((IntKind.u64.wrap ((Go.bits .and .u64 (a0 / 2) 6148914691236517205) + (Go.bits .and .u64 a0 6148914691236517205))) / 4) 3689348814741910323) + (Go.bits .and .u64 (IntKind.u64.wrap ((Go.bits .and .u64 (a0 / 2) 6148914691236517205) + (Go.bits .and .u64 a0 6148914691236517205))) 3689348814741910323))))) 1085102592571150095) / 256))) / 65536))) + ((IntKind.u64.wrap ((IntKind.u64.wrap ((Go.bits .and .u64 (IntKind.u64.wrap (((IntKind.u64.wrap ((Go.bits .and .u64 ((IntKind.u64.wrap ((Go.bits .and .u64 (a0 / 2) 6148914691236517205) + (Go.bits .and .u64 a0 6148914691236517205))) / 4) 3689348814741910323) + (Go.bits .and .u64 (IntKind.u64.wrap ((Go.bits .and .u64 (a0 / 2) 6148914691236517205) + (Go.bits .and .u64 a0 6148914691236517205))) 3689348814741910323))) / 16) + (IntKind.u64.wrap ((Go.bits .and .u64 ((IntKind.u64.wrap ((Go.bits .and .u64 (a0 / 2) 6148914691236517205) + (Go.bits .and .u64 a0 6148914691236517205))) / 4) 3689348814741910323) + (Go.bits .and .u64 (IntKind.u64.wrap ((Go.bits .and .u64 (a0 / 2) 6148914691236517205) + (Go.bits .and .u64 a0 6148914691236517205))) 3689348814741910323))))) 1085102592571150095) + ((Go.bits .and .u64 (IntKind.u64.wrap (((IntKind.u64.wrap ((Go.bits .and .u64 ((IntKind.u64.wrap ((Go.bits .and .u64 (a0 / 2) 6148914691236517205) + (Go.bits .and .u64 a0 6148914691236517205))) / 4) 3689348814741910323) + (Go.bits .and .u64 (IntKind.u64.wrap ((Go.bits .and .u64 (a0 / 2) 6148914691236517205) + (Go.bits .and .u64 a0 6148914691236517205))) 3689348814741910323))) / 16) + (IntKind.u64.wrap ((Go.bits .and .u64 ((IntKind.u64.wrap ((Go.bits .and .u64 (a0 / 2) 6148914691236517205) + (Go.bits .and .u64 a0 6148914691236517205))) / 4) 3689348814741910323) + (Go.bits .and .u64 (IntKind.u64.wrap ((Go.bits .and .u64 (a0 / 2) 6148914691236517205) + (Go.bits .and .u64 a0 6148914691236517205))) 3689348814741910323))))) 1085102592571150095) / 256))) + ((IntKind.u64.wrap ((Go.bits .and .u64 (IntKind.u64.wrap (((IntKind.u64.wrap ((Go.bits .and .u64 ((IntKind.u64.wrap ((Go.bits .and .u64 (a0 / 2) 6148914691236517205) + (Go.bits .and .u64 a0 6148914691236517205))) / 4) 3689348814741910323) + (Go.bits .and .u64 (IntKind.u64.wrap ((Go.bits .and .u64 (a0 / 2) 6148914691236517205) + (Go.bits .and .u64 a0 6148914691236517205))) 3689348814741910323))) / 16) + (IntKind.u64.wrap ((Go.bits .and .u64 ((IntKind.u64.wrap ((Go.bits .and .u64 (a0 / 2) 6148914691236517205) + (Go.bits .and .u64 a0 6148914691236517205))) / 4) 3689348814741910323) + (Go.bits .and .u64 (IntKind.u64.wrap ((Go.bits .and .u64 (a0 / 2) 6148914691236517205) + (Go.bits .and .u64 a0 6148914691236517205))) 3689348814741910323))))) 1085102592571150095) + ((Go.bits .and .u64 (IntKind.u64.wrap (((IntKind.u64.wrap ((Go.bits .and .u64 ((IntKind.u64.wrap ((Go.bits .and .u64 (a0 / 2) 6148914691236517205) + (Go.bits .and .u64 a0 6148914691236517205))) / 4) 3689348814741910323) + (Go.bits .and .u64 (IntKind.u64.wrap ((Go.bits .and .u64 (a0 / 2) 6148914691236517205) + (Go.bits .and .u64 a0 6148914691236517205))) 3689348814741910323))) / 16) + (IntKind.u64.wrap ((Go.bits .and .u64 ((IntKind.u64.wrap ((Go.bits .and .u64 (a0 / 2) 6148914691236517205) + (Go.bits .and .u64 a0 6148914691236517205))) / 4) 3689348814741910323) + (Go.bits .and .u64 (IntKind.u64.wrap ((Go.bits .and .u64 (a0 / 2) 6148914691236517205) + (Go.bits .and .u64 a0 6148914691236517205))) 3689348814741910323))))) 1085102592571150095) / 256))) / 65536))) / 4294967296)))) 127)
set_option maxHeartbeats 8000000 in
set_option maxRecDepth 100000 in
theorem ones64.calls (a0 : Int) (w : World) : Calls Tryd.prog 100 #[.int .u64 a0] w fun e w' => e = .returned (.int .i64 (onesI a0)) ∧ Drawn0 w w' := by
 unfold onesI
 go_enter Tryd.func100, Tryd.ntmps100
 go_wp2
 go_ret
 exact ⟨by first | rfl | (simp; done) | (simp [*]; done), by repeat (first | exact Drawn0.refl _ | apply Drawn0.step)⟩
theorem ones.calls (a0 : Int) (w : World) : Calls Tryd.prog 56 #[.int .u64 a0] w fun e w' => e = .returned (.int .i64 (onesI a0)) ∧ Drawn0 w w' := by
 obtain ⟨r, hr⟩ : ∃ r, onesI a0 = r := ⟨_, rfl⟩
 rw [hr]
 go_enter Tryd.func56, Tryd.ntmps56
 go_wp2_with fail
 refine (ones64.calls a0 _).mono ?_
 rw [hr]
 rintro e w1 ⟨rfl, hb⟩
 go_wp2
 go_ret
 exact ⟨rfl, hb⟩
theorem ones_all : ∀ n ∈ List.range 301, (onesI (n : Int) != 1) = !isPow n := by decide +kernel
theorem ones_pow (n : Nat) (h : n ≤ 300) : (onesI (n : Int) != 1) = !isPow n := ones_all n (List.mem_range.2 (by omega))
end Go.Proofs.YtijfifphcchbbaaDoor.P
namespace Go.Proofs.YtijfifphcchbbaaDoor.P
open Go.RowKit Go.Proofs.YtijfifphcchbbaaDoorW.PrintWords Go.Proofs.YtijfifphcchbbaaDoorW.PrintLast Go.Proofs.YtijfifphcchbbaaDoorW.PrintMore
set_option linter.unusedVariables false
set_option linter.unusedSimpArgs false
set_option linter.unnecessarySimpa false
def lenV : Value → Nat
 | .slice _ n _ => n
 | _ => 0
structure FoS (w : World) (wd : Int) (W : World) : Prop where
 h2 : W.heap[w.heap.size]? = some (.cells #[.int .i64 wd] 3 (0, 0))
 h4 : W.heap[w.heap.size + 1]? = some (.cells #[.string ⟨#[]⟩, .int .u64 0, .int .u64 0] 28 (0, 0))
 hB : Below w.heap.size w W
theorem FoS.below {w W W' : World} {wd : Int} (h : FoS w wd W) (hb : Below W.heap.size W W') : FoS w wd W' := ⟨blk_below h.h2 hb, blk_below h.h4 hb, h.hB.trans (hb.mono h.hB.size)⟩
theorem first_at {W : World} {ad : Addr} {l : List SNode} (h : Kd.C kNode W (some ad) l.length l) (h1 : l.length = 1) : W.cell? ad = some (.string (l.headD zeroN).f0) ∧ W.cell? ⟨ad.block, ad.off + 1, none⟩ = some (.int .u64 (l.headD zeroN).f1.f0) ∧ W.cell? ⟨ad.block, ad.off + 2, none⟩ = some (.int .u64 (l.headD zeroN).f1.f1) := by
 obtain ⟨a1, e1, p0, p1, p2⟩ := at_TNode h 0 (by omega) (by omega)
 cases e1
 match l, h1 with
 | [x], _ => exact ⟨p0, p1, p2⟩
set_option maxRecDepth 100000 in
set_option maxHeartbeats 4000000 in
theorem fold.calls (wd : Int) (A : Option Addr) (c : Nat) (l : List SNode) (w : World) (hK : Laid w) (hr : Kd.C kNode w A l.length l) (hc : l.length ≤ c) (h300 : l.length ≤ 300) (ul : ∀ x ∈ l, OkU x.f1) :
  Calls Tryd.prog 14 #[.int .i64 wd, .slice A l.length c] w fun e w' => e = .returned (.tuple #[nodeV (nodeJ (foldI wd l)), .int .i64 (foldI wd l).2.2.2]) ∧ Below w.heap.size w w' := by
 have hu := Tryd.underlying28
 have HR := aM' hr
 have HK := aM' hK
 have HC := aM' hc
 have H3 := aM' h300
 have UL := aM' ul
 clear hr hK hc h300 ul
 go_enter Tryd.func14, Tryd.ntmps14
 go_wp2_with fail
 have hs0 : FoS w wd ((w.alloc (.cells #[.int .i64 wd] 3)).alloc (.cells #[.string ⟨#[]⟩, .int .u64 0, .int .u64 0] 28)) :=
  ⟨blk_alloc (blk_new w _) _, by have := blk_new (w.alloc (.cells #[.int .i64 wd] 3)) (.cells #[.string ⟨#[]⟩, .int .u64 0, .int .u64 0] 28); rwa [World.size_alloc] at this, below_alloc (below_alloc (Below.refl _ _) _) _⟩
 refine (all.calls wd A c l _ (Kd.C_below HR.out hs0.hB)).mono ?_
 rintro e w1 ⟨rfl, hb⟩
 have hs1 := hs0.below hb
 have HS1 := aM' hs1
 clear hs0 hb
 have y0 : w1.cell? ⟨w.heap.size + 1, 0, none⟩ = some (.string ⟨#[]⟩) := blk_cell hs1.h4 0
 have y1 : w1.cell? ⟨w.heap.size + 1, 1, none⟩ = some (.int .u64 0) := blk_cell hs1.h4 1
 have y2 : w1.cell? ⟨w.heap.size + 1, 2, none⟩ = some (.int .u64 0) := blk_cell hs1.h4 2
 have yf : ∀ i, w1.frozen? ⟨w.heap.size + 1, i, none⟩ = false := fun i => blk_frozen hs1.h4 i
 clear hs1
 by_cases hal : 1 ≤ wd ∧ wd ≤ 32 ∧ l.all (nodeOf wd) = true
 ·
  have hb1 : (decide (1 ≤ wd) && (decide (wd ≤ 32) && l.all (nodeOf wd))) = true := by simp [hal]
  rw [hb1]
  have HAL := aM' hal
  clear hal hb1
  go_wp2_with fail
  refine (ones.calls _ _).mono ?_
  rintro e w2 ⟨rfl, ⟨⟨nd, rfl⟩⟩⟩
  have hop := ones_pow l.length H3.out
  rw [← wrapu64_id (x := (l.length : Int)) (by omega) (by have := H3.out; omega)] at hop
  generalize onesI (IntKind.u64.wrap (l.length : Int)) = pv at hop ⊢
  cases hp : isPow l.length with
  | false =>
   rw [hp] at hop
   have HI := aM' (show foldI wd l = (⟨#[]⟩, 0, 0, 2) by unfold foldI; rw [if_pos HAL.out, if_neg (by rw [hp]; decide)])
   go_wp2
   refine bodyPost_ret (v := .tuple #[.agg #[.string ⟨#[]⟩, .int .u64 0, .int .u64 0], .int .i64 2]) ?_ rfl ⟨by rw [HI.out], ?_⟩
   ·
    simp [results, Tryd.results14, go_sem, hu, y0, y1, y2]
   ·
    exact below_set (below_set (below_set (pw_below_drewN HS1.out.hB _) (by (try dsimp only); omega)) (by (try dsimp only); omega)) (by (try dsimp only); omega)
  | true =>
   rw [hp] at hop
   obtain ⟨K, hK2⟩ := isPow_spec hp
   have hk : ∀ x ∈ l, NodeK wd x := allK HAL.out.2.2 UL.out
   have HI := aM' (foldI_pow HAL.out.1 HAL.out.2.1 hK2 HAL.out.2.2)
   have hA : ∃ ad, A = some ad := by
    obtain ⟨_, _, h3⟩ := HR.out
    obtain ⟨a, ha, _⟩ := h3 (by rw [hK2]; exact Nat.two_pow_pos K)
    exact ⟨a, ha⟩
   obtain ⟨ad0, rfl⟩ := hA
   have HS2 := aM' (HS1.out.below (pw_below_drewN (Below.refl _ _) nd))
   have HK2 := aM' hK2
   have HKK := aM' hk
   clear hK2 hk hp
   go_wp2
   go_loopw [1] (fun v wr => ∃ (ad : Addr) (cc : Nat) (cur : List SNode), v = .slice (some ad) cur.length cc ∧ Aside0 (cur.length ≤ cc ∧ cur.length ≤ 300) ∧ Aside0 (∃ k, cur.length = 2 ^ k ∧ treeV wd k cur = treeV wd K l) ∧ Aside0 (totL cur = totL l) ∧ Aside0 (∀ x ∈ cur, NodeK wd x) ∧ Aside0 (Kd.C kNode wr (some ad) cur.length cur) ∧ Aside0 (FoS w wd wr)) (fun v _ => lenV v)
   case atStart => exact ⟨ad0, c, l, rfl, ⟨HC.out, H3.out⟩, ⟨K, HK2.out, rfl⟩, ⟨rfl⟩, HKK, ⟨Kd.C_below HR.out HS2.out.hB⟩, HS2⟩
   case round =>
    obtain ⟨ad, cc, cur, rfl, HCC, HT, HTT, HN, HCR, HS⟩ := hrel
    by_cases hlt : 1 < cur.length
    ·
     have b1 : decide ((1 : Int) < (cur.length : Int)) = true := decide_eq_true (by omega)
     obtain ⟨k, hk1, hk2⟩ := HT.out
     obtain ⟨k, rfl⟩ : ∃ k', k = k' + 1 := by
      cases k with
      | zero => rw [hk1] at hlt; simp at hlt
      | succ k => exact ⟨k, rfl⟩
     have hm2 : cur.length = 2 * 2 ^ k := by rw [hk1, Nat.pow_succ, Nat.mul_comm]
     have hm1 : 1 ≤ 2 ^ k := Nat.two_pow_pos k
     have HK1 := aM' hk1
     have HK2' := aM' hk2
     have HM2 := aM' hm2
     have HM1 := aM' hm1
     clear hk1 hk2 hm2 hm1
     go_wp2_with fail
     refine (pairs.calls wd w.heap.size ad cc (2 ^ k) cur wr (HK.out.below HS.out.hB) HS.out.h2 HM2.out HM1.out (by have := HCC.out; have := HM2.out; omega) HCC.out.1 HCR.out HN.out).mono ?_
     rintro e w3 ⟨hb, h⟩
     have HS3 := aM' (HS.out.below hb)
     clear hb
     obtain ⟨hpo, g, cap, rfl, hcap, hC⟩ | ⟨hpo, rfl⟩ := h
     ·
      have hl3 : (pairsV wd cur).length = 2 ^ k := pairsV_len wd _ _ HM2.out
      have HT3 := aM' (show ∃ k, (pairsV wd cur).length = 2 ^ k ∧ treeV wd k (pairsV wd cur) = treeV wd K l from ⟨k, hl3, by rw [← treeV_pairs wd k cur HK1.out]; exact HK2'.out⟩)
      have HTT3 := aM' ((pairsV_tot wd _ _ HM2.out).trans HTT.out)
      have HN3 := aM' (pairsV_k _ _ HM2.out HN.out hpo)
      rw [← hl3] at hC hcap ⊢
      have hlt3 : (pairsV wd cur).length < cur.length := by rw [hl3]; have := HM2.out; have := HM1.out; omega
      generalize pairsV wd cur = nx at hl3 HT3 HTT3 HN3 hC hcap hlt3 ⊢
      have HC3 := aM' hC
      have HCC3 := aM' (show nx.length ≤ cap ∧ nx.length ≤ 300 from ⟨hcap, by have := HCC.out; omega⟩)
      have HLT3 := aM' hlt3
      clear hl3 hC hcap hpo hlt3
      go_wp2
      go_roundw
      case rel => exact ⟨⟨g, 0, none⟩, cap, nx, rfl, HCC3, HT3, HTT3, HN3, HC3, HS3⟩
      case measure => exact HLT3.out
     ·
      have hno : ¬ totL l < 340282366920938463463374607431768211456 := by rw [← HTT.out]; exact pairsOk_tot _ _ HM2.out HN.out hpo
      have HI2 := aM' (show foldI wd l = (⟨#[]⟩, 0, 0, 10) by rw [HI.out, if_neg hno])
      have z0 : w3.cell? ⟨w.heap.size + 1, 0, none⟩ = some (.string ⟨#[]⟩) := blk_cell HS3.out.h4 0
      have z1 : w3.cell? ⟨w.heap.size + 1, 1, none⟩ = some (.int .u64 0) := blk_cell HS3.out.h4 1
      have z2 : w3.cell? ⟨w.heap.size + 1, 2, none⟩ = some (.int .u64 0) := blk_cell HS3.out.h4 2
      have zf : ∀ i, w3.frozen? ⟨w.heap.size + 1, i, none⟩ = false := fun i => blk_frozen HS3.out.h4 i
      clear hno y0 y1 y2 yf hpo
      go_wp2
      refine bodyPost_ret (v := .tuple #[.agg #[.string ⟨#[]⟩, .int .u64 0, .int .u64 0], .int .i64 10]) ?_ rfl ⟨by rw [HI2.out], ?_⟩
      ·
       simp [results, Tryd.results14, go_sem, hu, z0, z1, z2]
      ·
       exact below_set (below_set (below_set HS3.out.hB (by (try dsimp only); omega)) (by (try dsimp only); omega)) (by (try dsimp only); omega)
    ·
     have b1 : decide ((1 : Int) < (cur.length : Int)) = false := decide_eq_false (by omega)
     obtain ⟨k, hk1, hk2⟩ := HT.out
     have hk0 : k = 0 := by
      rcases Nat.eq_zero_or_pos k with h | h
      ·
       exact h
      ·
       have := Nat.pow_lt_pow_right (a := 2) (by decide) h
       omega
     subst hk0
     have h1 : cur.length = 1 := hk1
     obtain ⟨p0, p1, p2⟩ := first_at HCR.out h1
     have g1 : (0 : Int) < (cur.length : Int) := by omega
     have hx : cur.headD zeroN = treeV wd K l := by rw [← hk2]; rfl
     rw [hx] at p0 p1 p2
     have htot : totL l < 340282366920938463463374607431768211456 := by
      rw [← HTT.out]
      match cur, h1, HN.out with
      | [x], _, hn => have := valU_lt (hn x (by simp)).u; simp [totL]; exact this
     have HI2 := aM' (show foldI wd l = ((treeV wd K l).f0, (treeV wd K l).f1.f0, (treeV wd K l).f1.f1, 0) by rw [HI.out, if_pos htot])
     have z0 : wr.cell? ⟨w.heap.size + 1, 0, none⟩ = some (.string ⟨#[]⟩) := blk_cell HS.out.h4 0
     have z1 : wr.cell? ⟨w.heap.size + 1, 1, none⟩ = some (.int .u64 0) := blk_cell HS.out.h4 1
     have z2 : wr.cell? ⟨w.heap.size + 1, 2, none⟩ = some (.int .u64 0) := blk_cell HS.out.h4 2
     have zf : ∀ i, wr.frozen? ⟨w.heap.size + 1, i, none⟩ = false := fun i => blk_frozen HS.out.h4 i
     clear hk1 hk2 hx htot y0 y1 y2 yf
     go_wp2
     refine bodyPost_ret (v := .tuple #[.agg #[.string (treeV wd K l).f0, .int .u64 (treeV wd K l).f1.f0, .int .u64 (treeV wd K l).f1.f1], .int .i64 0]) ?_ rfl ⟨by rw [HI2.out], ?_⟩
     ·
      simp [results, Tryd.results14, go_sem, hu, z0, z1, z2]
     ·
      exact below_set (below_set (below_set HS.out.hB (by (try dsimp only); omega)) (by (try dsimp only); omega)) (by (try dsimp only); omega)
 ·
  have hb1 : (decide (1 ≤ wd) && (decide (wd ≤ 32) && l.all (nodeOf wd))) = false := by
   cases h : (decide (1 ≤ wd) && (decide (wd ≤ 32) && l.all (nodeOf wd))) with
   | false => rfl
   | true => simp only [Bool.and_eq_true, decide_eq_true_eq] at h; exact absurd h hal
  rw [hb1]
  have HI := aM' (show foldI wd l = (⟨#[]⟩, 0, 0, 70) by unfold foldI; rw [if_neg hal])
  clear hal hb1
  go_wp2
  refine bodyPost_ret (v := .tuple #[.agg #[.string ⟨#[]⟩, .int .u64 0, .int .u64 0], .int .i64 70]) ?_ rfl ⟨by rw [HI.out], ?_⟩
  ·
   simp [results, Tryd.results14, go_sem, hu, y0, y1, y2]
  ·
   exact below_set (below_set (below_set HS1.out.hB (by (try dsimp only); omega)) (by (try dsimp only); omega)) (by (try dsimp only); omega)
def node_Fold.f (x0 : Int) (l : List SNode) : Option (ByteArray × Int × Int × Int) :=
 if l.length ≤ 300 ∧ ∀ x ∈ l, (0 ≤ x.f1.f0 ∧ x.f1.f0 < 18446744073709551616) ∧ (0 ≤ x.f1.f1 ∧ x.f1.f1 < 18446744073709551616) then some (foldI x0 l) else none
theorem node_Fold.calls (x0 : Int) (A : Option Addr) (c : Nat) (l : List SNode) (r1 : ByteArray) (r2 r3 r4 : Int) (w : World) (hK : Laid w) (hr : Kd.C kNode w A l.length l) (hc : l.length ≤ c) (h : node_Fold.f x0 l = some (r1, r2, r3, r4)) :
  Calls Tryd.prog 14 #[.int .i64 x0, .slice A l.length c] w fun e w' => e = .returned (.tuple #[.agg #[.string r1, .int .u64 r2, .int .u64 r3], .int .i64 r4]) ∧ Below w.heap.size w w' := by
 unfold node_Fold.f at h
 split at h
 ·
  rename_i hh
  have h2 := Option.some.inj h
  refine (fold.calls x0 A c l w hK hr hc hh.1 (fun x hx => ⟨(hh.2 x hx).1, (hh.2 x hx).2⟩)).mono ?_
  rintro e w' ⟨rfl, hb⟩
  rw [h2]
  exact ⟨rfl, hb⟩
 ·
  cases h
end Go.Proofs.YtijfifphcchbbaaDoor.P
namespace Go.Proofs.YtijfifphcchbbaaDoor.P
open Go.RowKit Go.Proofs.YtijfifphcchbbaaDoorW.PrintWords Go.Proofs.YtijfifphcchbbaaDoorW.PrintLast Go.Proofs.YtijfifphcchbbaaDoorW.PrintMore
set_option linter.unusedVariables false
set_option linter.unusedSimpArgs false
set_option linter.unnecessarySimpa false
theorem slice_to (ad : Addr) (M c h : Nat) (hM : h ≤ M) (hc : M ≤ c) (hp : 0 < c) (wx : World) : (Instr.slice 22 (.slice (some ad) M c) none (some (.int .i64 (h : Int))) none).run Tryd.prog wx = .ok (.slice (some ad) h c) wx := by
 have h1 := run_slice_h (P := Tryd.prog) wx 22 (some ad) M c (by kernel_rfl) .i64 (h : Int) (by omega) (by omega)
 rw [h1]
 have hs : (sizeOf (Tryd.prog.elem 22)).run Tryd.prog wx = .ok 3 wx := by kernel_rfl
 rw [hs]
 simp only [Result.andThen, sliced, Int.toNat_natCast]
 rw [if_neg (by omega)]
 simp [Addr.add]
theorem foldI_ok {wd : Int} {l : List SNode} (ul : ∀ x ∈ l, OkU x.f1) : OkU (nodeJ (foldI wd l)).f1 := by
 have z : OkU (⟨0, 0⟩ : SU128) := ⟨⟨by decide, by decide⟩, ⟨by decide, by decide⟩⟩
 by_cases h : 1 ≤ wd ∧ wd ≤ 32 ∧ l.all (nodeOf wd) = true
 ·
  cases hp : isPow l.length with
  | false => unfold foldI; rw [if_pos h, if_neg (by rw [hp]; decide)]; exact z
  | true =>
   obtain ⟨k, hk⟩ := isPow_spec hp
   rw [foldI_pow h.1 h.2.1 hk h.2.2]
   by_cases r : totL l < 340282366920938463463374607431768211456
   ·
    rw [if_pos r]; exact (treeV_k k l hk (allK h.2.2 ul) r).u
   ·
    rw [if_neg r]; exact z
 ·
  unfold foldI; rw [if_neg h]; exact z
structure RFo (w W : World) : Prop where
 h4 : W.heap[w.heap.size]? = some (.cells #[.string ⟨#[]⟩, .int .u64 0, .int .u64 0] 28 (0, 0))
 hB : Below w.heap.size w W
theorem RFo.below {w W W' : World} (h : RFo w W) (hb : Below W.heap.size W W') : RFo w W' := ⟨blk_below h.h4 hb, h.hB.trans (hb.mono h.hB.size)⟩
end Go.Proofs.YtijfifphcchbbaaDoor.P
namespace Go.Proofs.YtijfifphcchbbaaDoor.P
open Go.RowKit Go.Proofs.YtijfifphcchbbaaDoorW.PrintWords Go.Proofs.YtijfifphcchbbaaDoorW.PrintLast Go.Proofs.YtijfifphcchbbaaDoorW.PrintMore
set_option linter.unusedVariables false
set_option linter.unusedSimpArgs false
set_option linter.unnecessarySimpa false
theorem halves_fold {wd : Int} {l : List SNode} (h0 : (foldI wd l).2.2.2 = 0) (h2 : 0 < l.length / 2) (ul : ∀ x ∈ l, OkU x.f1) : ∃ a b : SNode, OkU a.f1 ∧ OkU b.f1 ∧
  foldI wd (l.take (l.length / 2)) = (a.f0, a.f1.f0, a.f1.f1, 0) ∧ foldI wd (l.drop (l.length / 2)) = (b.f0, b.f1.f0, b.f1.f1, 0) ∧ joinI wd a b = foldI wd l := by
 by_cases h : 1 ≤ wd ∧ wd ≤ 32 ∧ l.all (nodeOf wd) = true
 ·
  cases hp : isPow l.length with
  | false =>
   unfold foldI at h0
   rw [if_pos h, if_neg (by rw [hp]; decide)] at h0
   exact absurd h0 (by decide)
  | true =>
   obtain ⟨K, hK⟩ := isPow_spec hp
   have e := foldI_pow h.1 h.2.1 hK h.2.2
   by_cases r : totL l < 340282366920938463463374607431768211456
   ·
    rw [if_pos r] at e
    cases K with
    | zero => rw [hK] at h2; exact absurd h2 (by decide)
    | succ k =>
     have hn : l.length / 2 = 2 ^ k := by rw [hK, Nat.pow_succ]; omega
     have hk := allK h.2.2 ul
     obtain ⟨e1, e2, e3⟩ := fold_halves h.1 h.2.1 hK hk r
     have o1 := foldI_ok (wd := wd) (l := l.take (2 ^ k)) fun x hx => ul x (List.mem_of_mem_take hx)
     have o2 := foldI_ok (wd := wd) (l := l.drop (2 ^ k)) fun x hx => ul x (List.mem_of_mem_drop hx)
     rw [e1] at o1
     rw [e2] at o2
     rw [hn]
     exact ⟨_, _, o1, o2, e1, e2, by rw [e3, e]⟩
   ·
    rw [e, if_neg r] at h0
    exact absurd h0 (by decide)
 ·
  unfold foldI at h0
  rw [if_neg h] at h0
  exact absurd h0 (by decide)
theorem climb_cut {wd p : Int} {n : SNode} {l : List SNode} {k : Nat} (un : OkU n.f1) (ul : ∀ x ∈ l, OkU x.f1) (h0 : (climbI wd n p l).2.2.2 = 0) (hk : k ≤ l.length) : ∃ h : SNode, OkU h.f1 ∧
  climbI wd n p (l.take k) = (h.f0, h.f1.f0, h.f1.f1, 0) ∧ climbI wd h (p / 2 ^ k) (l.drop k) = climbI wd n p l := by
 by_cases hof : nodeOf wd n = true ∧ l.all (nodeOf wd) = true
 ·
  by_cases h63 : 63 < l.length
  ·
   rw [climbI_long hof h63] at h0; exact absurd h0 (by decide)
  ·
   have hn : NodeK wd n := ⟨hof.1, un⟩
   have hl : ∀ x ∈ l, NodeK wd x := fun x hx => ⟨List.all_eq_true.1 hof.2 x hx, ul x hx⟩
   have h1 : ∀ x ∈ l.take k, NodeK wd x := fun x hx => hl x (List.mem_of_mem_take hx)
   have h2 : ∀ x ∈ l.drop k, NodeK wd x := fun x hx => hl x (List.mem_of_mem_drop hx)
   have t := totL_append (l.take k) (l.drop k)
   rw [List.take_append_drop] at t
   have t1 := totL_nn h1
   have t2 := totL_nn h2
   have l1 : (l.take k).length = k := by rw [List.length_take]; omega
   have l2 : (l.drop k).length = l.length - k := by rw [List.length_drop]
   by_cases hr : valU n.f1 + totL l < 340282366920938463463374607431768211456
   ·
    obtain ⟨a1, a2, a3⟩ := climbI_room (p := p) hn hl (by omega) hr
    obtain ⟨b1, b2, b3⟩ := climbI_room (p := p) hn h1 (by omega) (by omega)
    obtain ⟨c1, c2, c3⟩ := climbI_room (p := p / 2 ^ k) b2 h2 (by omega) (by rw [b3]; omega)
    refine ⟨_, b2.u, b1, ?_⟩
    rw [c1, a1, turnsTo_split p l k hk, climbV_append]
   ·
    rw [climbI_full hn hl (by omega) hr] at h0; exact absurd h0 (by decide)
 ·
  rw [climbI_width hof] at h0; exact absurd h0 (by decide)
end Go.Proofs.YtijfifphcchbbaaDoor.P
namespace Go.Proofs.YtijfifphcchbbaaDoor.P
open Go.RowKit Go.Proofs.YtijfifphcchbbaaDoorW.PrintWords Go.Proofs.YtijfifphcchbbaaDoorW.PrintLast Go.Proofs.YtijfifphcchbbaaDoorW.PrintMore
set_option linter.unusedVariables false
set_option linter.unusedSimpArgs false
set_option linter.unnecessarySimpa false
theorem lit_C {W : World} {g : Nat} {cur : Array Value} {xs : List SNode} (hg : W.heap[g]? = some (.cells cur 28 (0, 0))) (hc : cur.toList = cellsN xs) (hl : xs.length ≤ 1000) : Kd.C kNode W (some ⟨g, 0, none⟩) xs.length xs := by
 have hs : cur.size = xs.length * 3 := by rw [← cellsN_len, ← hc]; simp
 exact (ownNodes_C (base := 0) (cap := xs.length) ⟨cellsN_len xs, .inr ⟨g, xs.length, cur, rfl, Nat.zero_le _, hg, Nat.le_refl _, by unfold maxLen; omega, hs, by rw [← hc, List.take_of_length_le (by simp; omega)]⟩⟩).2.2
def aN : SNode := ⟨⟨#[97]⟩, ⟨0, 3⟩⟩
def bN : SNode := ⟨⟨#[98]⟩, ⟨0, 4⟩⟩
def mN : SNode := ⟨⟨#[98]⟩, ⟨18446744073709551615, 18446744073709551615⟩⟩
theorem aN_k : NodeK 1 aN := ⟨by decide, ⟨by decide, by decide⟩, ⟨by decide, by decide⟩⟩
theorem bN_k : NodeK 1 bN := ⟨by decide, ⟨by decide, by decide⟩, ⟨by decide, by decide⟩⟩
theorem mN_k : NodeK 1 mN := ⟨by decide, ⟨by decide, by decide⟩, ⟨by decide, by decide⟩⟩
def xB : ByteArray := dgI 1 (nodeText aN bN)
theorem xB_size : xB.size = 1 := dgI_size 1 _ (by decide) (by decide)
theorem aw_join : joinI 1 aN bN = (xB, 0, 7, 0) := (joinI_room aN_k bN_k (by decide)).trans rfl
theorem aw_fold : foldI 1 [aN, bN] = (xB, 0, 7, 0) := by
 have := foldI_pow (w := 1) (l := [aN, bN]) (k := 1) (by decide) (by decide) rfl (by decide)
 rw [this, if_pos (by decide)]; rfl
theorem aw_climb : climbI 1 bN 1 [aN] = (xB, 0, 7, 0) := by
 unfold climbI
 rw [if_pos (by decide), if_neg (by decide)]
 have e : turnsTo 1 [aN] [aN].length = [(aN, false)] := by
  have h : rightS 1 0 = false := by decide
  simp [turnsTo, List.range_succ, h]
 rw [e]
 show (if (joinI 1 aN bN).2.2.2 = 0 then climbL 1 (nodeJ (joinI 1 aN bN)) [] else _) = _
 rw [aw_join, if_pos rfl]; rfl
theorem aw_full : joinI 1 aN mN = (⟨#[]⟩, 0, 0, 10) := joinI_full aN_k mN_k (by decide)
theorem aw_width : joinI 2 aN bN = (⟨#[]⟩, 0, 0, 70) := by unfold joinI; rw [if_neg (by decide)]
theorem aw_three : foldI 1 [aN, bN, aN] = (⟨#[]⟩, 0, 0, 2) := by
 unfold foldI; rw [if_pos (by decide), if_neg (by decide)]
abbrev aA : Array Value := #[.string ⟨#[97]⟩, .int .u64 0, .int .u64 3]
abbrev bA : Array Value := #[.string ⟨#[98]⟩, .int .u64 0, .int .u64 4]
abbrev xA : Array Value := #[.string xB, .int .u64 0, .int .u64 7]
structure Aw1 (w W : World) : Prop where
 h1 : W.heap[w.heap.size]? = some (.cells aA 28 (0, 0))
 h2 : W.heap[w.heap.size + 1]? = some (.cells bA 28 (0, 0))
 hB : Below w.heap.size w W
theorem Aw1.below {w W W' : World} (h : Aw1 w W) (hb : Below W.heap.size W W') : Aw1 w W' := ⟨blk_below h.h1 hb, blk_below h.h2 hb, h.hB.trans (hb.mono h.hB.size)⟩
set_option maxRecDepth 100000 in
set_option maxHeartbeats 4000000 in
theorem awake14.calls (w : World) (hK : Laid w) : Calls Tryd.prog 17 #[] w fun e w' => e = .returned (.bool true) ∧ Below w.heap.size w w' := by
 have HK := aM' hK
 obtain ⟨k1, hk1⟩ := join_ev 1 aN bN aN_k.u bN_k.u
 obtain ⟨k2, hk2⟩ := join_ev 1 aN mN aN_k.u mN_k.u
 obtain ⟨k3, hk3⟩ := join_ev 2 aN bN aN_k.u bN_k.u
 rw [aw_join] at hk1
 rw [aw_full] at hk2
 rw [aw_width] at hk3
 have J1 := aM' (hk1 k1 (Nat.le_refl _))
 have J2 := aM' (hk2 k2 (Nat.le_refl _))
 have J3 := aM' (hk3 k3 (Nat.le_refl _))
 clear hK hk1 hk2 hk3
 have F1 := aM' (show node_Fold.f 1 [aN, bN] = some (xB, 0, 7, 0) by unfold node_Fold.f; rw [if_pos (by decide), aw_fold])
 have F2 := aM' (show node_Fold.f 1 [aN, bN, aN] = some (⟨#[]⟩, 0, 0, 2) by unfold node_Fold.f; rw [if_pos (by decide), aw_three])
 have C1 := aM' (show node_Climb.f 1 ⟨#[98]⟩ 0 4 1 [aN] = some (xB, 0, 7, 0) by unfold node_Climb.f; rw [if_pos (by decide)]; exact congrArg some aw_climb)
 go_enter Tryd.func17, Tryd.ntmps17
 go_upto_region 2 with (fail)
 have hA : Aw1 w ((w.alloc (.cells aA 28)).alloc (.cells bA 28)) := ⟨blk_alloc (blk_new w _) _, by have := blk_new (w.alloc (.cells aA 28)) (.cells bA 28); rwa [World.size_alloc] at this, below_alloc (below_alloc (Below.refl _ _) _) _⟩
 obtain ⟨W1, hW⟩ : ∃ W1, W1 = ((w.alloc (.cells #[.string ⟨#[97]⟩, .int .u64 0, .int .u64 3] 28)).alloc (.cells #[.string ⟨#[98]⟩, .int .u64 0, .int .u64 4] 28)) := ⟨_, rfl⟩
 rw [← hW]
 have hA1 : Aw1 w W1 := by rw [hW]; exact hA
 have HA1 := aM' hA1
 clear hA hA1 hW
 have x0 : W1.cell? ⟨w.heap.size, 0, none⟩ = some (.string ⟨#[97]⟩) := blk_cell HA1.out.h1 0
 have x1 : W1.cell? ⟨w.heap.size, 1, none⟩ = some (.int .u64 0) := blk_cell HA1.out.h1 1
 have x2 : W1.cell? ⟨w.heap.size, 2, none⟩ = some (.int .u64 3) := blk_cell HA1.out.h1 2
 have y0 : W1.cell? ⟨w.heap.size + 1, 0, none⟩ = some (.string ⟨#[98]⟩) := blk_cell HA1.out.h2 0
 have y1 : W1.cell? ⟨w.heap.size + 1, 1, none⟩ = some (.int .u64 0) := blk_cell HA1.out.h2 1
 have y2 : W1.cell? ⟨w.heap.size + 1, 2, none⟩ = some (.int .u64 4) := blk_cell HA1.out.h2 2
 go_wp2_with fail
 refine (node_Join.calls k1 1 ⟨#[97]⟩ 0 3 ⟨#[98]⟩ 0 4 xB 0 7 0 _ (HK.out.below HA1.out.hB) J1.out).mono ?_
 rintro e v ⟨rfl, hb0⟩
 go_upto_region 3 with (fail)
 have hb := hb0
 have hA := HA1.out.below hb
 obtain ⟨W2, hW⟩ : ∃ W2, W2 = v.alloc (.cells #[.string xB, .int .u64 0, .int .u64 7] 28) := ⟨_, rfl⟩
 rw [← hW]
 have hA2 : Aw1 w W2 := by rw [hW]; exact hA.below (below_alloc (Below.refl _ _) _)
 have hn : W2.heap[v.heap.size]? = some (.cells #[.string xB, .int .u64 0, .int .u64 7] 28 (0, 0)) := by rw [hW]; exact blk_new v _
 generalize v.heap.size = g2 at hn ⊢
 clear hA hb hb0 hW x0 x1 x2 y0 y1 y2 
 have HA2 := aM' hA2
 have Hg2 := aM' hn
 clear hA2 hn HA1 v 
 have x0 : W2.cell? ⟨w.heap.size, 0, none⟩ = some (.string ⟨#[97]⟩) := blk_cell HA2.out.h1 0
 have x1 : W2.cell? ⟨w.heap.size, 1, none⟩ = some (.int .u64 0) := blk_cell HA2.out.h1 1
 have x2 : W2.cell? ⟨w.heap.size, 2, none⟩ = some (.int .u64 3) := blk_cell HA2.out.h1 2
 have y0 : W2.cell? ⟨w.heap.size + 1, 0, none⟩ = some (.string ⟨#[98]⟩) := blk_cell HA2.out.h2 0
 have y1 : W2.cell? ⟨w.heap.size + 1, 1, none⟩ = some (.int .u64 0) := blk_cell HA2.out.h2 1
 have y2 : W2.cell? ⟨w.heap.size + 1, 2, none⟩ = some (.int .u64 4) := blk_cell HA2.out.h2 2
 have q1 : Kd.C kNode (W2.alloc (.cells #[.string ⟨#[97]⟩, .int .u64 0, .int .u64 3, .string ⟨#[98]⟩, .int .u64 0, .int .u64 4] 28)) (some ⟨W2.heap.size, 0, none⟩) ([aN, bN]).length [aN, bN] := lit_C (xs := [aN, bN]) (blk_new W2 (.cells #[.string ⟨#[97]⟩, .int .u64 0, .int .u64 3, .string ⟨#[98]⟩, .int .u64 0, .int .u64 4] 28)) rfl (by decide)
 have q2 : Laid (W2.alloc (.cells #[.string ⟨#[97]⟩, .int .u64 0, .int .u64 3, .string ⟨#[98]⟩, .int .u64 0, .int .u64 4] 28)) := (HK.out.below HA2.out.hB).below (below_alloc (Below.refl _ _) _)
 have q3 := node_Fold.calls 1 (some ⟨W2.heap.size, 0, none⟩) 2 [aN, bN] xB 0 7 0 (W2.alloc (.cells #[.string ⟨#[97]⟩, .int .u64 0, .int .u64 3, .string ⟨#[98]⟩, .int .u64 0, .int .u64 4] 28)) q2 q1 (by decide) F1.out
 have Q := aM' q3
 clear q1 q2 q3
 go_wp2_with fail
 refine (Q.out).mono ?_
 rintro e v ⟨rfl, hb0⟩
 go_upto_region 4 with (fail)
 have hb := Below.trans (below_alloc (Below.refl _ W2) (.cells #[.string ⟨#[97]⟩, .int .u64 0, .int .u64 3, .string ⟨#[98]⟩, .int .u64 0, .int .u64 4] 28)) (hb0.mono (by simp))
 have hA := HA2.out.below hb
 have hg2 := blk_below Hg2.out hb
 obtain ⟨W3, hW⟩ : ∃ W3, W3 = v.alloc (.cells #[.string xB, .int .u64 0, .int .u64 7] 28) := ⟨_, rfl⟩
 rw [← hW]
 have hA3 : Aw1 w W3 := by rw [hW]; exact hA.below (below_alloc (Below.refl _ _) _)
 have hn : W3.heap[v.heap.size]? = some (.cells #[.string xB, .int .u64 0, .int .u64 7] 28 (0, 0)) := by rw [hW]; exact blk_new v _
 have hg2' : W3.heap[g2]? = some (.cells xA 28 (0, 0)) := by rw [hW]; exact blk_alloc hg2 _
 generalize v.heap.size = g3 at hn ⊢
 clear hA hb hb0 hW x0 x1 x2 y0 y1 y2 hg2
 have HA3 := aM' hA3
 have Hg3 := aM' hn
 have Hg2 := aM' hg2'
 clear hA3 hn HA2 v hg2'
 have x0 : W3.cell? ⟨w.heap.size, 0, none⟩ = some (.string ⟨#[97]⟩) := blk_cell HA3.out.h1 0
 have x1 : W3.cell? ⟨w.heap.size, 1, none⟩ = some (.int .u64 0) := blk_cell HA3.out.h1 1
 have x2 : W3.cell? ⟨w.heap.size, 2, none⟩ = some (.int .u64 3) := blk_cell HA3.out.h1 2
 have y0 : W3.cell? ⟨w.heap.size + 1, 0, none⟩ = some (.string ⟨#[98]⟩) := blk_cell HA3.out.h2 0
 have y1 : W3.cell? ⟨w.heap.size + 1, 1, none⟩ = some (.int .u64 0) := blk_cell HA3.out.h2 1
 have y2 : W3.cell? ⟨w.heap.size + 1, 2, none⟩ = some (.int .u64 4) := blk_cell HA3.out.h2 2
 have q1 : Kd.C kNode (W3.alloc (.cells #[.string ⟨#[97]⟩, .int .u64 0, .int .u64 3] 28)) (some ⟨W3.heap.size, 0, none⟩) ([aN]).length [aN] := lit_C (xs := [aN]) (blk_new W3 (.cells #[.string ⟨#[97]⟩, .int .u64 0, .int .u64 3] 28)) rfl (by decide)
 have q2 : Laid (W3.alloc (.cells #[.string ⟨#[97]⟩, .int .u64 0, .int .u64 3] 28)) := (HK.out.below HA3.out.hB).below (below_alloc (Below.refl _ _) _)
 have q3 := node_Climb.calls 1 ⟨#[98]⟩ 0 4 1 (some ⟨W3.heap.size, 0, none⟩) 1 [aN] xB 0 7 0 (W3.alloc (.cells #[.string ⟨#[97]⟩, .int .u64 0, .int .u64 3] 28)) q2 q1 (by decide) C1.out
 have Q := aM' q3
 clear q1 q2 q3
 go_wp2_with fail
 refine (Q.out).mono ?_
 rintro e v ⟨rfl, hb0⟩
 go_upto_region 5 with (fail)
 have hb := Below.trans (below_alloc (Below.refl _ W3) (.cells #[.string ⟨#[97]⟩, .int .u64 0, .int .u64 3] 28)) (hb0.mono (by simp))
 have hA := HA3.out.below hb
 have hg2 := blk_below Hg2.out hb
 have hg3 := blk_below Hg3.out hb
 obtain ⟨W4, hW⟩ : ∃ W4, W4 = v.alloc (.cells #[.string xB, .int .u64 0, .int .u64 7] 28) := ⟨_, rfl⟩
 rw [← hW]
 have hA4 : Aw1 w W4 := by rw [hW]; exact hA.below (below_alloc (Below.refl _ _) _)
 have hn : W4.heap[v.heap.size]? = some (.cells #[.string xB, .int .u64 0, .int .u64 7] 28 (0, 0)) := by rw [hW]; exact blk_new v _
 have hg2' : W4.heap[g2]? = some (.cells xA 28 (0, 0)) := by rw [hW]; exact blk_alloc hg2 _
 have hg3' : W4.heap[g3]? = some (.cells xA 28 (0, 0)) := by rw [hW]; exact blk_alloc hg3 _
 generalize v.heap.size = g4 at hn ⊢
 clear hA hb hb0 hW x0 x1 x2 y0 y1 y2 hg2 hg3
 have HA4 := aM' hA4
 have Hg4 := aM' hn
 have Hg2 := aM' hg2'
 have Hg3 := aM' hg3'
 clear hA4 hn HA3 v hg2' hg3'
 have x0 : W4.cell? ⟨w.heap.size, 0, none⟩ = some (.string ⟨#[97]⟩) := blk_cell HA4.out.h1 0
 have x1 : W4.cell? ⟨w.heap.size, 1, none⟩ = some (.int .u64 0) := blk_cell HA4.out.h1 1
 have x2 : W4.cell? ⟨w.heap.size, 2, none⟩ = some (.int .u64 3) := blk_cell HA4.out.h1 2
 have y0 : W4.cell? ⟨w.heap.size + 1, 0, none⟩ = some (.string ⟨#[98]⟩) := blk_cell HA4.out.h2 0
 have y1 : W4.cell? ⟨w.heap.size + 1, 1, none⟩ = some (.int .u64 0) := blk_cell HA4.out.h2 1
 have y2 : W4.cell? ⟨w.heap.size + 1, 2, none⟩ = some (.int .u64 4) := blk_cell HA4.out.h2 2
 go_wp2_with fail
 refine (node_Join.calls k2 1 ⟨#[97]⟩ 0 3 ⟨#[98]⟩ 18446744073709551615 18446744073709551615 ⟨#[]⟩ 0 0 10 _ (HK.out.below HA4.out.hB) J2.out).mono ?_
 rintro e v ⟨rfl, hb0⟩
 go_upto_region 6 with (fail)
 have hb := hb0
 have hA := HA4.out.below hb
 have hg2 := blk_below Hg2.out hb
 have hg3 := blk_below Hg3.out hb
 have hg4 := blk_below Hg4.out hb
 obtain ⟨W5, hW⟩ : ∃ W5, W5 = v.alloc (.cells #[.string ⟨#[]⟩, .int .u64 0, .int .u64 0] 28) := ⟨_, rfl⟩
 rw [← hW]
 have hA5 : Aw1 w W5 := by rw [hW]; exact hA.below (below_alloc (Below.refl _ _) _)
 have hn : W5.heap[v.heap.size]? = some (.cells #[.string ⟨#[]⟩, .int .u64 0, .int .u64 0] 28 (0, 0)) := by rw [hW]; exact blk_new v _
 have hg2' : W5.heap[g2]? = some (.cells xA 28 (0, 0)) := by rw [hW]; exact blk_alloc hg2 _
 have hg3' : W5.heap[g3]? = some (.cells xA 28 (0, 0)) := by rw [hW]; exact blk_alloc hg3 _
 have hg4' : W5.heap[g4]? = some (.cells xA 28 (0, 0)) := by rw [hW]; exact blk_alloc hg4 _
 generalize v.heap.size = g5 at hn ⊢
 clear hA hb hb0 hW x0 x1 x2 y0 y1 y2 hg2 hg3 hg4
 have HA5 := aM' hA5
 have Hg5 := aM' hn
 have Hg2 := aM' hg2'
 have Hg3 := aM' hg3'
 have Hg4 := aM' hg4'
 clear hA5 hn HA4 v hg2' hg3' hg4'
 have x0 : W5.cell? ⟨w.heap.size, 0, none⟩ = some (.string ⟨#[97]⟩) := blk_cell HA5.out.h1 0
 have x1 : W5.cell? ⟨w.heap.size, 1, none⟩ = some (.int .u64 0) := blk_cell HA5.out.h1 1
 have x2 : W5.cell? ⟨w.heap.size, 2, none⟩ = some (.int .u64 3) := blk_cell HA5.out.h1 2
 have y0 : W5.cell? ⟨w.heap.size + 1, 0, none⟩ = some (.string ⟨#[98]⟩) := blk_cell HA5.out.h2 0
 have y1 : W5.cell? ⟨w.heap.size + 1, 1, none⟩ = some (.int .u64 0) := blk_cell HA5.out.h2 1
 have y2 : W5.cell? ⟨w.heap.size + 1, 2, none⟩ = some (.int .u64 4) := blk_cell HA5.out.h2 2
 go_wp2_with fail
 refine (node_Join.calls k3 2 ⟨#[97]⟩ 0 3 ⟨#[98]⟩ 0 4 ⟨#[]⟩ 0 0 70 _ (HK.out.below HA5.out.hB) J3.out).mono ?_
 rintro e v ⟨rfl, hb0⟩
 go_upto_region 7 with (fail)
 have hb := hb0
 have hA := HA5.out.below hb
 have hg2 := blk_below Hg2.out hb
 have hg3 := blk_below Hg3.out hb
 have hg4 := blk_below Hg4.out hb
 obtain ⟨W6, hW⟩ : ∃ W6, W6 = v.alloc (.cells #[.string ⟨#[]⟩, .int .u64 0, .int .u64 0] 28) := ⟨_, rfl⟩
 rw [← hW]
 have hA6 : Aw1 w W6 := by rw [hW]; exact hA.below (below_alloc (Below.refl _ _) _)
 have hn : W6.heap[v.heap.size]? = some (.cells #[.string ⟨#[]⟩, .int .u64 0, .int .u64 0] 28 (0, 0)) := by rw [hW]; exact blk_new v _
 have hg2' : W6.heap[g2]? = some (.cells xA 28 (0, 0)) := by rw [hW]; exact blk_alloc hg2 _
 have hg3' : W6.heap[g3]? = some (.cells xA 28 (0, 0)) := by rw [hW]; exact blk_alloc hg3 _
 have hg4' : W6.heap[g4]? = some (.cells xA 28 (0, 0)) := by rw [hW]; exact blk_alloc hg4 _
 generalize v.heap.size = g6 at hn ⊢
 clear hA hb hb0 hW x0 x1 x2 y0 y1 y2 hg2 hg3 hg4
 have HA6 := aM' hA6
 have Hg6 := aM' hn
 have Hg2 := aM' hg2'
 have Hg3 := aM' hg3'
 have Hg4 := aM' hg4'
 clear hA6 hn HA5 v hg2' hg3' hg4'
 have x0 : W6.cell? ⟨w.heap.size, 0, none⟩ = some (.string ⟨#[97]⟩) := blk_cell HA6.out.h1 0
 have x1 : W6.cell? ⟨w.heap.size, 1, none⟩ = some (.int .u64 0) := blk_cell HA6.out.h1 1
 have x2 : W6.cell? ⟨w.heap.size, 2, none⟩ = some (.int .u64 3) := blk_cell HA6.out.h1 2
 have y0 : W6.cell? ⟨w.heap.size + 1, 0, none⟩ = some (.string ⟨#[98]⟩) := blk_cell HA6.out.h2 0
 have y1 : W6.cell? ⟨w.heap.size + 1, 1, none⟩ = some (.int .u64 0) := blk_cell HA6.out.h2 1
 have y2 : W6.cell? ⟨w.heap.size + 1, 2, none⟩ = some (.int .u64 4) := blk_cell HA6.out.h2 2
 have q1 : Kd.C kNode (W6.alloc (.cells #[.string ⟨#[97]⟩, .int .u64 0, .int .u64 3, .string ⟨#[98]⟩, .int .u64 0, .int .u64 4, .string ⟨#[97]⟩, .int .u64 0, .int .u64 3] 28)) (some ⟨W6.heap.size, 0, none⟩) ([aN, bN, aN]).length [aN, bN, aN] := lit_C (xs := [aN, bN, aN]) (blk_new W6 (.cells #[.string ⟨#[97]⟩, .int .u64 0, .int .u64 3, .string ⟨#[98]⟩, .int .u64 0, .int .u64 4, .string ⟨#[97]⟩, .int .u64 0, .int .u64 3] 28)) rfl (by decide)
 have q2 : Laid (W6.alloc (.cells #[.string ⟨#[97]⟩, .int .u64 0, .int .u64 3, .string ⟨#[98]⟩, .int .u64 0, .int .u64 4, .string ⟨#[97]⟩, .int .u64 0, .int .u64 3] 28)) := (HK.out.below HA6.out.hB).below (below_alloc (Below.refl _ _) _)
 have q3 := node_Fold.calls 1 (some ⟨W6.heap.size, 0, none⟩) 3 [aN, bN, aN] ⟨#[]⟩ 0 0 2 (W6.alloc (.cells #[.string ⟨#[97]⟩, .int .u64 0, .int .u64 3, .string ⟨#[98]⟩, .int .u64 0, .int .u64 4, .string ⟨#[97]⟩, .int .u64 0, .int .u64 3] 28)) q2 q1 (by decide) F2.out
 have Q := aM' q3
 clear q1 q2 q3
 go_wp2_with fail
 refine (Q.out).mono ?_
 rintro e v ⟨rfl, hb0⟩
 go_upto_region 8 with (fail)
 have hb := Below.trans (below_alloc (Below.refl _ W6) (.cells #[.string ⟨#[97]⟩, .int .u64 0, .int .u64 3, .string ⟨#[98]⟩, .int .u64 0, .int .u64 4, .string ⟨#[97]⟩, .int .u64 0, .int .u64 3] 28)) (hb0.mono (by simp))
 have hA := HA6.out.below hb
 have hg2 := blk_below Hg2.out hb
 have hg3 := blk_below Hg3.out hb
 have hg4 := blk_below Hg4.out hb
 obtain ⟨W7, hW⟩ : ∃ W7, W7 = v.alloc (.cells #[.string ⟨#[]⟩, .int .u64 0, .int .u64 0] 28) := ⟨_, rfl⟩
 rw [← hW]
 have hA7 : Aw1 w W7 := by rw [hW]; exact hA.below (below_alloc (Below.refl _ _) _)
 have hn : W7.heap[v.heap.size]? = some (.cells #[.string ⟨#[]⟩, .int .u64 0, .int .u64 0] 28 (0, 0)) := by rw [hW]; exact blk_new v _
 have hg2' : W7.heap[g2]? = some (.cells xA 28 (0, 0)) := by rw [hW]; exact blk_alloc hg2 _
 have hg3' : W7.heap[g3]? = some (.cells xA 28 (0, 0)) := by rw [hW]; exact blk_alloc hg3 _
 have hg4' : W7.heap[g4]? = some (.cells xA 28 (0, 0)) := by rw [hW]; exact blk_alloc hg4 _
 generalize v.heap.size = g7 at hn ⊢
 clear hA hb hb0 hW x0 x1 x2 y0 y1 y2 hg2 hg3 hg4
 have HA7 := aM' hA7
 have Hg7 := aM' hn
 have Hg2 := aM' hg2'
 have Hg3 := aM' hg3'
 have Hg4 := aM' hg4'
 clear hA7 hn HA6 v hg2' hg3' hg4'
 have p0 : W7.cell? ⟨g2, 0, none⟩ = some (.string xB) := blk_cell Hg2.out 0
 have p1 : W7.cell? ⟨g2, 1, none⟩ = some (.int .u64 0) := blk_cell Hg2.out 1
 have p2 : W7.cell? ⟨g2, 2, none⟩ = some (.int .u64 7) := blk_cell Hg2.out 2
 have q0 : W7.cell? ⟨g3, 0, none⟩ = some (.string xB) := blk_cell Hg3.out 0
 have q1 : W7.cell? ⟨g3, 1, none⟩ = some (.int .u64 0) := blk_cell Hg3.out 1
 have q2 : W7.cell? ⟨g3, 2, none⟩ = some (.int .u64 7) := blk_cell Hg3.out 2
 have s0 : W7.cell? ⟨g4, 0, none⟩ = some (.string xB) := blk_cell Hg4.out 0
 have s1 : W7.cell? ⟨g4, 1, none⟩ = some (.int .u64 0) := blk_cell Hg4.out 1
 have s2 : W7.cell? ⟨g4, 2, none⟩ = some (.int .u64 7) := blk_cell Hg4.out 2
 have hxs : ((xB.size : Int) == 1) = true := by rw [xB_size]; rfl
 go_wp2
 go_ret
 exact ⟨rfl, HA7.out.hB⟩
def paymasterlaw14_awake.f : Option Bool := some true
theorem paymasterlaw14_awake.calls (r : Bool) (w : World) (hK : Laid w) (h : paymasterlaw14_awake.f = some r) : Calls Tryd.prog 17 #[] w fun e w' => e = .returned (.bool r) ∧ Below w.heap.size w w' := by
 cases h
 exact awake14.calls w hK
end Go.Proofs.YtijfifphcchbbaaDoor.P
namespace Go.Proofs.YtijfifphcchbbaaDoor.P
open Go.RowKit Go.Proofs.YtijfifphcchbbaaDoorW.PrintWords Go.Proofs.YtijfifphcchbbaaDoorW.PrintLast Go.Proofs.YtijfifphcchbbaaDoorW.PrintMore
set_option linter.unusedVariables false
set_option linter.unusedSimpArgs false
set_option linter.unnecessarySimpa false
attribute [local go_sem] sel_true
structure HvB (w W : World) (g : Nat) (n : SNode) : Prop where
 box : W.heap[g]? = some (.cells #[.string n.f0, .int .u64 n.f1.f0, .int .u64 n.f1.f1] 28 (0, 0))
theorem infoN3 : (Tryd.prog.info? 28).map (fun i => (i.zero, i.size, i.bytes)) = some (some (.agg #[(.string ⟨#[]⟩), (.int .u64 0), (.int .u64 0)]), 3, 32) := by kernel_rfl
theorem hv_first {W : World} {ad : Addr} {l : List SNode} (h : Kd.C kNode W (some ad) l.length l) (h1 : 0 < l.length) : W.cell? ad = some (.string (rd_TNode l 0).f0) ∧ W.cell? ⟨ad.block, ad.off + 1, none⟩ = some (.int .u64 (rd_TNode l 0).f1.f0) ∧ W.cell? ⟨ad.block, ad.off + 2, none⟩ = some (.int .u64 (rd_TNode l 0).f1.f1) := by
 obtain ⟨a1, e1, p0, p1, p2⟩ := at_TNode h 0 (by omega) (by omega)
 cases e1
 exact ⟨p0, p1, p2⟩
structure HvS (w W : World) (g : Nat) (v : SNode) : Prop where
 g0 : w.heap.size ≤ g
 hB : Below w.heap.size w W
 hG : W.heap[g]? = some (.cells #[.string v.f0, .int .u64 v.f1.f0, .int .u64 v.f1.f1] 28 (0, 0))
theorem HvS.lt {w W : World} {g : Nat} {v : SNode} (h : HvS w W g v) : g < W.heap.size := blk_lt h.hG
theorem HvS.below {w W W' : World} {g : Nat} {v : SNode} (h : HvS w W g v) (hb : Below W.heap.size W W') : HvS w W' g v := ⟨h.g0, h.hB.trans (hb.mono h.hB.size), blk_below h.hG hb⟩
theorem HvS.put3 {w W : World} {g0 : Nat} {v : SNode} (h : HvS w W g0 v) {g : Nat} (hg : g0 < g) (x y z : Value) : HvS w (((W.setCell ⟨g, 0, none⟩ x).setCell ⟨g, 1, none⟩ y).setCell ⟨g, 2, none⟩ z) g0 v :=
 ⟨h.g0, below3 h.hB (by have := h.g0; omega) _ _ _, far3 h.hG (by omega) _ _ _⟩
structure HvT (w W : World) (g : Nat) (v : SNode) (h : Nat) (x : SNode) : Prop where
 hB : Below w.heap.size w W
 hG : W.heap[g]? = some (.cells #[.string v.f0, .int .u64 v.f1.f0, .int .u64 v.f1.f1] 28 (0, 0))
 hH : W.heap[h]? = some (.cells #[.string x.f0, .int .u64 x.f1.f0, .int .u64 x.f1.f1] 28 (0, 0))
 gh : w.heap.size ≤ g ∧ g < h
theorem HvT.lt {w W : World} {g h : Nat} {v x : SNode} (s : HvT w W g v h x) : h < W.heap.size := blk_lt s.hH
theorem HvT.below {w W W' : World} {g h : Nat} {v x : SNode} (s : HvT w W g v h x) (hb : Below W.heap.size W W') : HvT w W' g v h x := ⟨s.hB.trans (hb.mono s.hB.size), blk_below s.hG hb, blk_below s.hH hb, s.gh⟩
theorem HvT.put3 {w W : World} {g0 h : Nat} {v x : SNode} (s : HvT w W g0 v h x) {g : Nat} (hg : h < g) (a b c : Value) : HvT w (((W.setCell ⟨g, 0, none⟩ a).setCell ⟨g, 1, none⟩ b).setCell ⟨g, 2, none⟩ c) g0 v h x :=
 ⟨below3 s.hB (by have := s.gh; omega) _ _ _, far3 s.hG (by have := s.gh; omega) _ _ _, far3 s.hH (by omega) _ _ _, s.gh⟩
theorem hv_rest {wd : Int} {l : List SNode} (ul : ∀ x ∈ l, OkU x.f1) (h3 : l.length ≤ 300) : node_Fold.f wd l = some (foldI wd l) := by
 unfold node_Fold.f
 rw [if_pos ⟨h3, fun x hx => ⟨(ul x hx).h0, (ul x hx).h1⟩⟩]
theorem hv_climb {wd p : Int} {n : SNode} {l : List SNode} (un : OkU n.f1) (hp : 0 ≤ p) (ul : ∀ x ∈ l, OkU x.f1) : node_Climb.f wd n.f0 n.f1.f0 n.f1.f1 p l = some (climbI wd n p l) := by
 unfold node_Climb.f
 rw [if_pos ⟨hp, ⟨un.h0, un.h1⟩, fun x hx => ⟨(ul x hx).h0, (ul x hx).h1⟩⟩]
set_option maxRecDepth 100000 in
set_option maxHeartbeats 4000000 in
theorem halves.calls (wd p sm : Int) (A : Option Addr) (c : Nat) (ls : List SNode) (w : World) (hK : Laid w) (hr : Kd.C kNode w A ls.length ls) (hc : ls.length ≤ c) (hp : 0 ≤ p ∧ p < 18446744073709551616) (hs : 0 ≤ sm ∧ sm < 256) (ul : ∀ x ∈ ls, OkU x.f1) (bG : Bool) (hG : Ev (fun k => paymasterlaw14_Great.f k ls) bG) (h3 : bG = false → ls.length ≤ 300) :
  Calls Tryd.prog 6 #[.int .i64 wd, .slice A ls.length c, .int .u64 p, .int .u8 sm] w fun e w' => e = .returned (.bool true) ∧ Below w.heap.size w w' := by
 obtain ⟨kG, hkG⟩ := hG.rounds
 have HG := aM' hkG
 have HK := aM' hK
 have HR := aM' hr
 have HC := aM' hc
 have UL := aM' ul
 have HP := aM' hp
 have HS := aM' hs
 have H3 := aM' h3
 have hut := Tryd.underlying28
 clear hG hkG hK hr hc ul hp hs h3
 go_enter Tryd.func6, Tryd.ntmps6
 go_wp2_with fail
 refine (paymasterlaw14_awake.calls true _ HK.out rfl).mono ?_
 rintro e w1 ⟨rfl, hb1⟩
 have HB1 := aM' hb1
 clear hb1
 go_wp2_with fail
 refine (paymasterlaw14_Great.calls kG A c ls bG _ (Kd.C_below HR.out HB1.out) HC.out HG.out).mono ?_
 rintro e w2 ⟨rfl, hb⟩
 have HB2 : Aside0 (Below w.heap.size w w2) := ⟨HB1.out.trans (hb.below.mono HB1.out.size)⟩
 clear hb
 cases bG with
 | true =>
  go_wp2
  go_ret
  exact ⟨rfl, HB2.out⟩
 | false =>
 have h300 := H3.out rfl
 by_cases hl0 : ls.length = 0
 ·
  have b0 : ((ls.length : Int) == 0) = true := by rw [hl0]; rfl
  clear h300 hl0
  go_wp2
  go_ret
  exact ⟨rfl, HB2.out⟩
 have b0 : ((ls.length : Int) == 0) = false := by rw [beq_eq_false_iff_ne]; omega
 have hpos : 0 < ls.length := by omega
 have hA : ∃ ad, A = some ad := by
  obtain ⟨_, _, h3⟩ := HR.out
  obtain ⟨a, ha, _⟩ := h3 hpos
  exact ⟨a, ha⟩
 obtain ⟨ad, rfl⟩ := hA
 have hq : (ls.length : Int).tdiv 2 = ((ls.length / 2 : Nat) : Int) := by rw [Int.tdiv_eq_ediv_of_nonneg (by omega)]; omega
 have wq : wrap64 (((ls.length / 2 : Nat) : Int)) = ((ls.length / 2 : Nat) : Int) := wrap64_id (by omega) (by omega)
 have wq2 : wrap64 ((ls.length : Int) / 2) = ((ls.length / 2 : Nat) : Int) := by rw [show (ls.length : Int) / 2 = ((ls.length / 2 : Nat) : Int) by omega]; exact wq
 have H300 := aM' h300
 have HPOS := aM' hpos
 clear h300 hl0 hpos
 rcases hfl : foldI wd ls with ⟨r1, r2, r3, r4⟩
 have HFL := aM' hfl
 have HF := aM' ((hv_rest (wd := wd) UL.out H300.out).trans (congrArg some hfl))
 clear hfl
 go_wp2_with fail
 refine (node_Fold.calls wd (some ad) c ls r1 r2 r3 r4 _ (HK.out.below HB2.out) (Kd.C_below HR.out HB2.out) HC.out HF.out).mono ?_
 rintro e w3 ⟨rfl, hb⟩
 have HB3 : Aside0 (Below w.heap.size w w3) := ⟨HB2.out.trans (hb.mono HB2.out.size)⟩
 clear hb
 go_upto_region 7 with (fail)
 obtain ⟨W4, hW⟩ : ∃ V, V = w3.alloc (.cells #[.string r1, .int .u64 r2, .int .u64 r3] 28) := ⟨_, rfl⟩
 rw [← hW]
 have hb4 : W4.heap[w3.heap.size]? = some (.cells #[.string r1, .int .u64 r2, .int .u64 r3] 28 (0, 0)) := by rw [hW]; exact blk_new _ _
 have HB4 : Aside0 (Below w.heap.size w W4) := ⟨by rw [hW]; exact below_alloc HB3.out _⟩
 have hgw : w.heap.size ≤ w3.heap.size := HB3.out.size
 generalize w3.heap.size = g4 at hb4 hgw ⊢
 have HG4 := aM' hb4
 rw [show (ls.length : Int) / 2 = ((ls.length / 2 : Nat) : Int) by omega]
 obtain ⟨n, hn⟩ : ∃ n, n = ls.length / 2 := ⟨_, rfl⟩
 rw [← hn]
 have HN := aM' hn
 clear hn hq wq wq2
 clear hW hb4 hgw b0
 obtain ⟨b7, hb7⟩ : ∃ b, b = (decide (r4 = 0) && decide (0 < n)) := ⟨_, rfl⟩
 have B7 := aM' hb7
 clear hb7
 go_cut [49] (fun v49 wc => v49 = .bool b7 ∧ W4 = wc)
 case first =>
  by_cases h4 : r4 = 0
  ·
   have h4b : (r4 == 0) = true := by simp [h4]
   have HB7 := aM' (show b7 = decide (0 < n) by rw [B7.out, decide_eq_true h4, Bool.true_and])
   clear h4
   by_cases h5 : 0 < n
   ·
    have h5b : decide (0 < n) = true := decide_eq_true h5
    have h5c : decide ((0 : Int) < ((n : Nat) : Int)) = true := decide_eq_true (by omega)
    clear h5
    go_wp2
    go_meet
    exact ⟨by rw [HB7.out, h5b], rfl⟩
   ·
    have h5b : decide (0 < n) = false := decide_eq_false h5
    have h5c : decide ((0 : Int) < ((n : Nat) : Int)) = false := decide_eq_false (by omega)
    clear h5
    go_wp2
    go_meet
    exact ⟨by rw [HB7.out, h5b], rfl⟩
  ·
   have h4b : (r4 == 0) = false := by simp [h4]
   have HB7 := aM' (show b7 = false by rw [B7.out, decide_eq_false h4, Bool.false_and])
   clear h4
   go_wp2
   go_meet
   exact ⟨by rw [HB7.out], rfl⟩
 case rest =>
  obtain ⟨rfl, rfl⟩ := hcut
  go_upto_if 49 with (fail)
  go_cut [] (fun wc => Aside0 (Below w.heap.size w wc))
  case first =>
   cases b7 with
   | false =>
    go_wp2
    go_meet
    exact HB4
   | true =>
    have hc7 := B7.out.symm
    simp only [Bool.and_eq_true, decide_eq_true_eq] at hc7
    obtain ⟨a, b, oa, ob, ea, eb, ej⟩ := halves_fold (wd := wd) (l := ls) (by rw [HFL.out]; exact hc7.1) (by rw [← HN.out]; exact hc7.2) UL.out
    rw [← HN.out] at ea eb
    have hle : n ≤ ls.length := by have := HN.out; omega
    have hlt : n < ls.length := by have := HN.out; have := HPOS.out; omega
    have hC1 := Kd.C_take HR.out hle
    have hC2 := Kd.C_drop (c := c) HR.out hle HC.out
    have hl1' : (ls.take n).length = n := by rw [List.length_take]; omega
    have hl2' : (ls.drop n).length = ls.length - n := by rw [List.length_drop]
    rw [if_neg (by have := HC.out; omega)] at hC2
    have hu1 : ∀ x ∈ ls.take n, OkU x.f1 := fun x hx => UL.out x (List.mem_of_mem_take hx)
    have hu2 : ∀ x ∈ ls.drop n, OkU x.f1 := fun x hx => UL.out x (List.mem_of_mem_drop hx)
    have s1 := fun wx => slice_to ad ls.length c n hle HC.out (by have := HC.out; omega) wx
    have s2 := fun wx => slice_from ad ls.length c n hlt HC.out wx
    have f1 := (hv_rest (wd := wd) hu1 (by rw [hl1']; have := H300.out; omega)).trans (congrArg some ea)
    have f2 := (hv_rest (wd := wd) hu2 (by rw [hl2']; have := H300.out; omega)).trans (congrArg some eb)
    have q1 := node_Fold.calls wd (some ad) c (ls.take n) _ _ _ _ W4 (HK.out.below HB4.out) (Kd.C_below (by rw [hl1'] at hC1 ⊢; exact hC1) HB4.out) (by rw [hl1']; have := HC.out; omega) f1
    have q2 := fun (W : World) (hW : Below w.heap.size w W) => node_Fold.calls wd (some (ad.add (n * 3))) (c - n) (ls.drop n) _ _ _ _ W (HK.out.below hW) (Kd.C_below (by rw [hl2'] at hC2 ⊢; exact hC2) hW) (by rw [hl2']; have := HC.out; omega) f2
    rw [hl1'] at q1
    rw [hl2'] at q2
    obtain ⟨kJ, hkJ⟩ := (join_ev wd a b oa ob).rounds
    rw [ej, HFL.out] at hkJ
    have J := aM' hkJ
    have Q1 := aM' q1
    have Q2 := aM' q2
    have R4 := aM' hc7.1
    clear hc7 oa ob ea eb ej hle hlt hC1 hC2 hl1' hl2' hu1 hu2 f1 f2 q1 q2 hkJ
    go_wp2_with fail
    refine Q1.out.mono ?_
    rintro e w5 ⟨rfl, hb5⟩
    have hg4 := blk_below HG4.out hb5
    have HB5 : Aside0 (Below w.heap.size w w5) := ⟨HB4.out.trans (hb5.mono HB4.out.size)⟩
    have HG5 := aM' hg4
    clear hb5 hg4 Q1 HG4
    go_upto_region 9 with (fail)
    obtain ⟨W6, hW⟩ : ∃ V, V = w5.alloc (.cells #[.string a.f0, .int .u64 a.f1.f0, .int .u64 a.f1.f1] 28) := ⟨_, rfl⟩
    rw [← hW]
    have hn6 : W6.heap[w5.heap.size]? = some (.cells #[.string a.f0, .int .u64 a.f1.f0, .int .u64 a.f1.f1] 28 (0, 0)) := by rw [hW]; exact blk_new _ _
    have HB6 : Aside0 (Below w.heap.size w W6) := ⟨by rw [hW]; exact below_alloc HB5.out _⟩
    have HG6 : Aside0 (W6.heap[g4]? = some (.cells #[.string r1, .int .u64 r2, .int .u64 r3] 28 (0, 0))) := ⟨by rw [hW]; exact blk_alloc HG5.out _⟩
    generalize w5.heap.size = g6 at hn6 ⊢
    have HA6 := aM' hn6
    clear hW hn6 HG5
    have q2 := Q2.out W6 HB6.out
    have Q3 := aM' q2
    clear q2 Q2
    go_wp2_with fail
    refine Q3.out.mono ?_
    rintro e w7 ⟨rfl, hb7⟩
    have hg7 := blk_below HG6.out hb7
    have ha7 := blk_below HA6.out hb7
    have HB7 : Aside0 (Below w.heap.size w w7) := ⟨HB6.out.trans (hb7.mono HB6.out.size)⟩
    have HG7 := aM' hg7
    have HA7 := aM' ha7
    clear hb7 hg7 ha7 Q3 HG6 HA6
    go_upto_region 10 with (fail)
    obtain ⟨W8, hW⟩ : ∃ V, V = w7.alloc (.cells #[.string b.f0, .int .u64 b.f1.f0, .int .u64 b.f1.f1] 28) := ⟨_, rfl⟩
    rw [← hW]
    have hn8 : W8.heap[w7.heap.size]? = some (.cells #[.string b.f0, .int .u64 b.f1.f0, .int .u64 b.f1.f1] 28 (0, 0)) := by rw [hW]; exact blk_new _ _
    have HB8 : Aside0 (Below w.heap.size w W8) := ⟨by rw [hW]; exact below_alloc HB7.out _⟩
    have HG8 : Aside0 (W8.heap[g4]? = some (.cells #[.string r1, .int .u64 r2, .int .u64 r3] 28 (0, 0))) := ⟨by rw [hW]; exact blk_alloc HG7.out _⟩
    have ha8 : W8.heap[g6]? = some (.cells #[.string a.f0, .int .u64 a.f1.f0, .int .u64 a.f1.f1] 28 (0, 0)) := by rw [hW]; exact blk_alloc HA7.out _
    generalize w7.heap.size = g8 at hn8 ⊢
    have x0 : W8.cell? ⟨g6, 0, none⟩ = some (.string a.f0) := blk_cell ha8 0
    have x1 : W8.cell? ⟨g6, 1, none⟩ = some (.int .u64 a.f1.f0) := blk_cell ha8 1
    have x2 : W8.cell? ⟨g6, 2, none⟩ = some (.int .u64 a.f1.f1) := blk_cell ha8 2
    have y0 : W8.cell? ⟨g8, 0, none⟩ = some (.string b.f0) := blk_cell hn8 0
    have y1 : W8.cell? ⟨g8, 1, none⟩ = some (.int .u64 b.f1.f0) := blk_cell hn8 1
    have y2 : W8.cell? ⟨g8, 2, none⟩ = some (.int .u64 b.f1.f1) := blk_cell hn8 2
    clear hW hn8 ha8 HG7 HA7
    go_wp2_with fail
    refine (node_Join.calls kJ wd a.f0 a.f1.f0 a.f1.f1 b.f0 b.f1.f0 b.f1.f1 r1 r2 r3 r4 _ (HK.out.below HB8.out) J.out).mono ?_
    rintro e w9 ⟨rfl, hb9⟩
    have hg9 := blk_below HG8.out hb9
    have HB9 : Aside0 (Below w.heap.size w w9) := ⟨HB8.out.trans (hb9.mono HB8.out.size)⟩
    have HG9 := aM' hg9
    clear hb9 hg9 HG8 x0 x1 x2 y0 y1 y2
    go_upto_region 11 with (fail)
    obtain ⟨W10, hW⟩ : ∃ V, V = w9.alloc (.cells #[.string r1, .int .u64 r2, .int .u64 r3] 28) := ⟨_, rfl⟩
    rw [← hW]
    have hn10 : W10.heap[w9.heap.size]? = some (.cells #[.string r1, .int .u64 r2, .int .u64 r3] 28 (0, 0)) := by rw [hW]; exact blk_new _ _
    have HB10 : Aside0 (Below w.heap.size w W10) := ⟨by rw [hW]; exact below_alloc HB9.out _⟩
    have hg10 : W10.heap[g4]? = some (.cells #[.string r1, .int .u64 r2, .int .u64 r3] 28 (0, 0)) := by rw [hW]; exact blk_alloc HG9.out _
    generalize w9.heap.size = g10 at hn10 ⊢
    have x0 : W10.cell? ⟨g4, 0, none⟩ = some (.string r1) := blk_cell hg10 0
    have x1 : W10.cell? ⟨g4, 1, none⟩ = some (.int .u64 r2) := blk_cell hg10 1
    have x2 : W10.cell? ⟨g4, 2, none⟩ = some (.int .u64 r3) := blk_cell hg10 2
    have y0 : W10.cell? ⟨g10, 0, none⟩ = some (.string r1) := blk_cell hn10 0
    have y1 : W10.cell? ⟨g10, 1, none⟩ = some (.int .u64 r2) := blk_cell hn10 1
    have y2 : W10.cell? ⟨g10, 2, none⟩ = some (.int .u64 r3) := blk_cell hn10 2
    clear hW hn10 hg10 HG9
    have r4b : (r4 != 0) = false := by rw [R4.out]; rfl
    go_wp2
    go_meet
    exact HB10
  case rest =>
   have HBc : Aside0 (Below w.heap.size w wc) := hcut
   clear hcut HG4 HB4 HB3 HB2 HB1
   have hle : (1 : Nat) ≤ ls.length := HPOS.out
   have hC2 := Kd.C_drop (c := c) HR.out hle HC.out
   obtain ⟨i0, hi0, _, hsz, _⟩ := info_parts infoN3
   have s1 := cut_from (P := Tryd.prog) 22 28 .i64 Tryd.underlying22 hi0 3 hsz (some ad) ls.length c 1 (by decide) (by omega)
   rw [show (1 : Int).toNat = 1 from rfl] at s1
   obtain ⟨A2, hA2⟩ : ∃ z, z = (if c = 1 then (some ad) else (some ad : Option Addr).map (·.add (1 * 3))) := ⟨_, rfl⟩
   rw [show kNode.sz = 3 from rfl] at hC2
   rw [← hA2] at hC2 s1
   obtain ⟨c2, hc2⟩ : ∃ z, z = c - 1 := ⟨_, rfl⟩
   rw [← hc2] at s1
   have hls : (ls.drop 1).length = ls.length - 1 := by rw [List.length_drop]
   obtain ⟨ss, hss⟩ : ∃ z, z = ls.drop 1 := ⟨_, rfl⟩
   rw [← hss] at hC2 hls
   rw [← hls] at s1
   have HRS := aM' hC2
   have HCS : Aside0 (ss.length ≤ c2) := ⟨by rw [hls, hc2]; have := HC.out; omega⟩
   have HSS := aM' hss
   have HLS := aM' hls
   clear hle hC2 hi0 hsz hA2 hc2 hls hss
   go_upto_region 14 with (fail)
   have hs := HS.out
   have wk : wrap64 ((ss.length : Int) + 1) = (ss.length : Int) + 1 := wrap64_id (by omega) (by have := H300.out; have := HLS.out; omega)
   have nz : ((ss.length : Int) + 1 == 0) = false := by rw [beq_eq_false_iff_ne]; omega
   obtain ⟨q, hq⟩ : ∃ q, q = sm.toNat % (ss.length + 1) := ⟨_, rfl⟩
   have kz : sm.tmod ((ss.length : Int) + 1) = (q : Int) := by
    rw [hq, Int.tmod_eq_emod_of_nonneg hs.1]
    have : sm = (sm.toNat : Int) := by omega
    rw [this]
    rfl
   have HQ : Aside0 (q ≤ ss.length) := ⟨by rw [hq]; exact Nat.le_of_lt_succ (Nat.mod_lt _ (Nat.succ_pos _))⟩
   have wsm : wrap64 sm = sm := wrap64_id (by omega) (by omega)
   clear hs hq
   go_upto_region 15 with (fail)
   clear wsm wk nz kz s1
   have hus : ∀ x ∈ ss, OkU x.f1 := fun x hx => UL.out x (by rw [HSS.out] at hx; exact List.mem_of_mem_drop hx)
   have hun : OkU (rd_TNode ls 0).f1 := by rw [show (0 : Int) = ((0 : Nat) : Int) from rfl, rdNode_nat ls 0 HPOS.out]; exact UL.out _ (List.getElem_mem HPOS.out)
   obtain ⟨p0, p1, p2⟩ := hv_first (Kd.C_below HR.out HBc.out) HPOS.out
   have hAt : ∀ W, Below w.heap.size w W → W.cell? ad = some (.string (rd_TNode ls 0).f0) ∧ W.cell? ⟨ad.block, ad.off + 1, none⟩ = some (.int .u64 (rd_TNode ls 0).f1.f0) ∧ W.cell? ⟨ad.block, ad.off + 2, none⟩ = some (.int .u64 (rd_TNode ls 0).f1.f1) := fun W hW => hv_first (Kd.C_below HR.out hW) HPOS.out
   generalize rd_TNode ls 0 = n0 at p0 p1 p2 hun hAt
   have HUS := aM' hus
   have HUN := aM' hun
   have HAT := aM' hAt
   rcases hcl : climbI wd n0 p ss with ⟨z1, z2, z3, z4⟩
   have HCL := aM' hcl
   have HF1 := aM' ((hv_climb (wd := wd) hun HP.out.1 hus).trans (congrArg some hcl))
   clear hus hun hcl hAt
   have qi : (0 < ls.length) = True := eq_true HPOS.out
   go_wp2_with fail
   refine (node_Climb.calls wd n0.f0 n0.f1.f0 n0.f1.f1 p A2 c2 ss z1 z2 z3 z4 _ (HK.out.below HBc.out) (Kd.C_below HRS.out HBc.out) HCS.out HF1.out).mono ?_
   rintro e w20 ⟨rfl, hb⟩
   have HB20 : Aside0 (Below w.heap.size w w20) := ⟨HBc.out.trans (hb.mono HBc.out.size)⟩
   clear hb p0 p1 p2 HBc
   go_upto_region 16 with (fail)
   obtain ⟨W21, hW⟩ : ∃ V, V = w20.alloc (.cells #[.string z1, .int .u64 z2, .int .u64 z3] 28) := ⟨_, rfl⟩
   rw [← hW]
   have hs21 : HvS w W21 w20.heap.size ⟨z1, ⟨z2, z3⟩⟩ := ⟨HB20.out.size, by rw [hW]; exact below_alloc HB20.out _, by rw [hW]; exact blk_new _ _⟩
   generalize w20.heap.size = g at hs21 ⊢
   have HS21 := aM' hs21
   clear hW hs21 HB20
   by_cases hz : z4 = 0
   ·
    subst hz
    by_cases h63 : 63 < q
    ·
     have h63b : decide (63 < q) = true := decide_eq_true h63
     have h63c : decide ((63 : Int) < (q : Int)) = true := decide_eq_true (by omega)
     clear h63
     go_wp2
     go_ret
     exact ⟨rfl, HS21.out.hB⟩
    ·
     have h63b : decide (63 < q) = false := decide_eq_false h63
     have h63c : decide ((63 : Int) < (q : Int)) = false := decide_eq_false (by omega)
     have H63 := aM' h63
     clear h63
     obtain ⟨hd, ohd, ec1, ec2⟩ := climb_cut (wd := wd) (p := p) (n := n0) (l := ss) (k := q) HUN.out HUS.out (by rw [HCL.out]) HQ.out
     rw [HCL.out] at ec2
     have hlt1 : (ss.take q).length = q := by rw [List.length_take]; have := HQ.out; omega
     have hlt2 : (ss.drop q).length = ss.length - q := by rw [List.length_drop]
     have hu1 : ∀ x ∈ ss.take q, OkU x.f1 := fun x hx => HUS.out x (List.mem_of_mem_take hx)
     have hu2 : ∀ x ∈ ss.drop q, OkU x.f1 := fun x hx => HUS.out x (List.mem_of_mem_drop hx)
     have f1 := (hv_climb (wd := wd) HUN.out HP.out.1 hu1).trans (congrArg some ec1)
     have f2 := (hv_climb (wd := wd) (p := p / 2 ^ q) ohd (Int.ediv_nonneg HP.out.1 (Int.pow_nonneg (by decide))) hu2).trans (congrArg some ec2)
     have hT1 := Kd.C_take HRS.out HQ.out
     have hT2 := Kd.C_drop (c := c2) HRS.out HQ.out HCS.out
     rw [show kNode.sz = 3 from rfl] at hT2
     obtain ⟨i0, hi0, hz0, hsz, hy0⟩ := info_parts infoN3
     have s1 := cut_to (P := Tryd.prog) 22 28 .i64 Tryd.underlying22 hi0 A2 ss.length c2 (q : Int) (by omega) (by have := HQ.out; omega) HCS.out
     have s2 := cut_from (P := Tryd.prog) 22 28 .i64 Tryd.underlying22 hi0 3 hsz A2 ss.length c2 (q : Int) (by omega) (by have := HQ.out; omega)
     rw [Int.toNat_natCast] at s1 s2
     obtain ⟨A3, hA3⟩ : ∃ z, z = (if c2 = q then A2 else A2.map (·.add (q * 3))) := ⟨_, rfl⟩
     rw [← hA3] at hT2 s2
     obtain ⟨c3, hc3⟩ : ∃ z, z = c2 - q := ⟨_, rfl⟩
     rw [← hc3] at s2
     rw [← hlt2] at s2
     have hc3' : (ss.drop q).length ≤ c3 := by rw [hlt2, hc3]; have := HCS.out; omega
     have q1 := fun (W : World) (hW : Below w.heap.size w W) => node_Climb.calls wd n0.f0 n0.f1.f0 n0.f1.f1 p A2 c2 (ss.take q) _ _ _ _ W (HK.out.below hW) (Kd.C_below hT1 hW) (by rw [hlt1]; have := HCS.out; have := HQ.out; omega) f1
     have q2 := fun (W : World) (hW : Below w.heap.size w W) => node_Climb.calls wd hd.f0 hd.f1.f0 hd.f1.f1 (p / 2 ^ q) A3 c3 (ss.drop q) _ _ _ _ W (HK.out.below hW) (Kd.C_below hT2 hW) hc3' f2
     rw [hlt1] at q1
     generalize ss.drop q = st at q2 s2
     have CALL1 := aM' q1
     have CALL2 := aM' q2
     clear hlt1 hlt2 hu1 hu2 f1 f2 hT1 hT2 hi0 hsz hz0 hy0 i0 hA3 hc3 hc3' q1 q2 ec1 ec2 ohd
     go_upto_region 18 with (fail)
     refine region_inv (fun l a W => ∃ γ : Nat, a = ({ tmps := #[.int .i64 wd, .slice (some ad) ls.length c, .int .u64 p, .int .u8 sm, undef, undef, undef, undef, u8, .int .i64 (n : Int), .pointer (some ⟨g4, 0, none⟩), .int .i64 r4, u12, u13, u14, u15, u16, u17, .slice A2 ss.length c2, .int .i64 (q : Int), .pointer (some ⟨g, 0, none⟩), .int .i64 0, sel (l 12) (.pointer (some ⟨γ, 0, none⟩)) (undef), sel (l 14) (.int .i64 0) (undef), undef, undef, u26, u27, u28, u29, u30, u31, u32, u33, u34, u35, u36, u37, u38, u39, u40, u41, u42, u43, u44, u45, u46, u47, u48, u49, u50, u51, u52, u53, u54, u55, u56, u57, u58, u59, u60, u61, u62, u63, u64, u65, u66, u67, u68, u69, u70, u71, u72, u73, u74, u75, u76, u77, u78, u79, u80, u81, u82, u83, u84, u85, u86, u87, .slice (some ad) ls.length c, .slice A2 ss.length c2, .int .u8 sm, .int .i64 (wrap64 sm), .slice A2 ss.length c2, .int .i64 (ss.length : Int), .int .i64 (wrap64 ((ss.length : Int) + 1)), .int .i64 (q : Int), .tuple #[.agg #[.string z1, .int .u64 z2, .int .u64 z3], .int .i64 0], .int .i64 wd, .slice (some ad) ls.length c, .pointer (some ad), .agg #[.string n0.f0, .int .u64 n0.f1.f0, .int .u64 n0.f1.f1], .int .u64 p, .slice A2 ss.length c2, .tuple #[.agg #[.string z1, .int .u64 z2, .int .u64 z3], .int .i64 0], .agg #[.string z1, .int .u64 z2, .int .u64 z3], .int .i64 0, .int .i64 0, .bool false, .bool false, .int .i64 (q : Int), .bool false, .bool false, sel (l 9) (.tuple #[.agg #[.string hd.f0, .int .u64 hd.f1.f0, .int .u64 hd.f1.f1], .int .i64 0]) (u112), sel (l 0) (.int .i64 wd) (u113), sel (l 1) (.slice (some ad) ls.length c) (u114), sel (l 2) (.pointer (some ad)) (u115), sel (l 3) (.agg #[.string n0.f0, .int .u64 n0.f1.f0, .int .u64 n0.f1.f1]) (u116), sel (l 4) (.int .u64 p) (u117), sel (l 5) (.slice A2 ss.length c2) (u118), sel (l 6) (.int .i64 (q : Int)) (u119), sel (l 7) (.slice A2 q c2) (u120), sel (l 8) (.tuple #[.agg #[.string hd.f0, .int .u64 hd.f1.f0, .int .u64 hd.f1.f1], .int .i64 0]) (u121), sel (l 10) (.agg #[.string hd.f0, .int .u64 hd.f1.f0, .int .u64 hd.f1.f1]) (u122), sel (l 11) (.int .i64 0) (u123), u124, u125, u126, u127, u128, u129, u130, u131, u132, u133, u134, u135, u136, u137, u138, u139, u140, u141, u142, u143, u144, u145, u146, u147], defers := [] } : Act) ∧ (HvS w W g ⟨z1, ⟨z2, z3⟩⟩ ∧ (l 13 = true → l 12 = true) ∧ (l 12 = true → g < γ ∧ W.heap[γ]? = some (.cells (if l 13 = true then #[.string hd.f0, .int .u64 hd.f1.f0, .int .u64 hd.f1.f1] else #[.string ⟨#[]⟩, .int .u64 0, .int .u64 0]) 28 (0, 0))))) 15 rfl rfl (by kernel_rfl) ?h0 ?hend ?hstep
     case h0 => exact ⟨0, rfl, HS21.out.below (below_drew (Below.refl _ _)), fun h => (by cases h), fun h => (by cases h)⟩
     case hstep =>
      refine rg_cons (rg_cons (rg_cons (rg_cons (rg_cons (rg_cons (rg_cons (rg_cons (rg_cons (rg_cons (rg_cons (rg_cons (rg_cons (rg_cons (rg_cons (rg_nil) ?s0) ?s1) ?s2) ?s3) ?s4) ?s5) ?s6) ?s7) ?s8) ?s9) ?s10) ?s11) ?s12) ?s13) ?s14
      case s0 =>
       refine rg_step rfl ?_
       rintro l a W ⟨γ, rfl, hI⟩ hl hd
       clear hd
       refine rg_val (v := .int .i64 wd) (w' := W) rfl (by go_simp) ?_
       refine ⟨γ, ?_, ?_⟩
       ·
        simp only [Act.put, List.setIfInBounds_toArray, List.set_cons_zero, List.set_cons_succ]; rfl
       ·
        exact hI
      case s1 =>
       refine rg_step rfl ?_
       rintro l a W ⟨γ, rfl, hI⟩ hl hd
       clear hd
       refine rg_val (v := .slice (some ad) ls.length c) (w' := W) rfl (by go_simp) ?_
       refine ⟨γ, ?_, ?_⟩
       ·
        simp only [Act.put, List.setIfInBounds_toArray, List.set_cons_zero, List.set_cons_succ]; rfl
       ·
        exact hI
      case s2 =>
       refine rg_step rfl ?_
       rintro l a W ⟨γ, rfl, hI⟩ hl hd
       have d1 := hd 1 (by decide)
       clear hd
       refine rg_val (v := .pointer (some ad)) (w' := W) rfl (by go_simp) ?_
       refine ⟨γ, ?_, ?_⟩
       ·
        simp only [Act.put, List.setIfInBounds_toArray, List.set_cons_zero, List.set_cons_succ]; rfl
       ·
        exact hI
      case s3 =>
       refine rg_step rfl ?_
       rintro l a W ⟨γ, rfl, hI⟩ hl hd
       have d2 := hd 2 (by decide)
       clear hd
       obtain ⟨x0, x1, x2⟩ := HAT.out W hI.1.hB
       refine rg_val (v := .agg #[.string n0.f0, .int .u64 n0.f1.f0, .int .u64 n0.f1.f1]) (w' := W) rfl (by go_simp) ?_
       refine ⟨γ, ?_, ?_⟩
       ·
        simp only [Act.put, List.setIfInBounds_toArray, List.set_cons_zero, List.set_cons_succ]; rfl
       ·
        exact hI
      case s4 =>
       refine rg_step rfl ?_
       rintro l a W ⟨γ, rfl, hI⟩ hl hd
       clear hd
       refine rg_val (v := .int .u64 p) (w' := W) rfl (by go_simp) ?_
       refine ⟨γ, ?_, ?_⟩
       ·
        simp only [Act.put, List.setIfInBounds_toArray, List.set_cons_zero, List.set_cons_succ]; rfl
       ·
        exact hI
      case s5 =>
       refine rg_step rfl ?_
       rintro l a W ⟨γ, rfl, hI⟩ hl hd
       clear hd
       refine rg_val (v := .slice A2 ss.length c2) (w' := W) rfl (by go_simp) ?_
       refine ⟨γ, ?_, ?_⟩
       ·
        simp only [Act.put, List.setIfInBounds_toArray, List.set_cons_zero, List.set_cons_succ]; rfl
       ·
        exact hI
      case s6 =>
       refine rg_step rfl ?_
       rintro l a W ⟨γ, rfl, hI⟩ hl hd
       clear hd
       refine rg_val (v := .int .i64 (q : Int)) (w' := W) rfl (by go_simp) ?_
       refine ⟨γ, ?_, ?_⟩
       ·
        simp only [Act.put, List.setIfInBounds_toArray, List.set_cons_zero, List.set_cons_succ]; rfl
       ·
        exact hI
      case s7 =>
       refine rg_step rfl ?_
       rintro l a W ⟨γ, rfl, hI⟩ hl hd
       have d5 := hd 5 (by decide)
       have d6 := hd 6 (by decide)
       clear hd
       refine rg_val (v := .slice A2 q c2) (w' := W) rfl (by go_simp) ?_
       refine ⟨γ, ?_, ?_⟩
       ·
        simp only [Act.put, List.setIfInBounds_toArray, List.set_cons_zero, List.set_cons_succ]; rfl
       ·
        exact hI
      case s8 =>
       refine rg_step rfl ?_
       rintro l a W ⟨γ, rfl, hI⟩ hl hd
       have d0 := hd 0 (by decide)
       have d3 := hd 3 (by decide)
       have d4 := hd 4 (by decide)
       have d7 := hd 7 (by decide)
       clear hd
       refine rg_call rfl (by go_simp; exact ⟨rfl, rfl⟩) ?_
       refine (CALL1.out W hI.1.hB).mono ?_
       rintro x W' ⟨rfl, hb⟩
       refine ⟨_, rfl, γ, ?_, ?_⟩
       ·
        simp only [Act.put, List.setIfInBounds_toArray, List.set_cons_zero, List.set_cons_succ]; rfl
       ·
        exact ⟨hI.1.below hb, fun h => hI.2.1 h, fun h => ⟨(hI.2.2 h).1, blk_below (hI.2.2 h).2 hb⟩⟩
      case s9 =>
       refine rg_step rfl ?_
       rintro l a W ⟨γ, rfl, hI⟩ hl hd
       have d8 := hd 8 (by decide)
       clear hd
       refine rg_val (v := .tuple #[.agg #[.string hd.f0, .int .u64 hd.f1.f0, .int .u64 hd.f1.f1], .int .i64 0]) (w' := W) rfl (by go_simp) ?_
       refine ⟨γ, ?_, ?_⟩
       ·
        simp only [Act.put, List.setIfInBounds_toArray, List.set_cons_zero, List.set_cons_succ]; rfl
       ·
        exact hI
      case s10 =>
       refine rg_step rfl ?_
       rintro l a W ⟨γ, rfl, hI⟩ hl hd
       have d9 := hd 9 (by decide)
       clear hd
       refine rg_val (v := .agg #[.string hd.f0, .int .u64 hd.f1.f0, .int .u64 hd.f1.f1]) (w' := W) rfl (by go_simp) ?_
       refine ⟨γ, ?_, ?_⟩
       ·
        simp only [Act.put, List.setIfInBounds_toArray, List.set_cons_zero, List.set_cons_succ]; rfl
       ·
        exact hI
      case s11 =>
       refine rg_step rfl ?_
       rintro l a W ⟨γ, rfl, hI⟩ hl hd
       have d9 := hd 9 (by decide)
       clear hd
       refine rg_val (v := .int .i64 0) (w' := W) rfl (by go_simp) ?_
       refine ⟨γ, ?_, ?_⟩
       ·
        simp only [Act.put, List.setIfInBounds_toArray, List.set_cons_zero, List.set_cons_succ]; rfl
       ·
        exact hI
      case s12 =>
       refine rg_step rfl ?_
       rintro l a W ⟨γ, rfl, hI⟩ hl hd
       clear hd
       refine rg_val (v := .pointer (some ⟨W.heap.size, 0, none⟩)) (w' := W.alloc (.cells #[.string ⟨#[]⟩, .int .u64 0, .int .u64 0] 28)) rfl (by go_simp) ?_
       refine ⟨W.heap.size, ?_, ?_⟩
       ·
        simp only [Act.put, List.setIfInBounds_toArray, List.set_cons_zero, List.set_cons_succ]; rfl
       ·
        exact ⟨hI.1.below (below_alloc (Below.refl _ _) _), fun _ => rfl, fun _ => ⟨hI.1.lt, by rw [if_neg (show ¬ upd l 12 13 = true from fun h => by have h : l 13 = true := h; rw [hI.2.1 h] at hl; cases hl)]; exact blk_new W _⟩⟩
      case s13 =>
       refine rg_step rfl ?_
       rintro l a W ⟨γ, rfl, hI⟩ hl hd
       have d10 := hd 10 (by decide)
       have d12 := hd 12 (by decide)
       clear hd
       have hg := hI.2.2 d12
       rw [if_neg (by rw [hl]; decide)] at hg
       have y0 := blk_cell hg.2 0
       have y1 := blk_cell hg.2 1
       have y2 := blk_cell hg.2 2
       have yf := fun i => blk_frozen hg.2 i
       simp at y0 y1 y2
       refine rg_skip rfl (by go_simp; rfl) ?_
       refine ⟨γ, ?_, ?_⟩
       ·
        simp only [Act.put, List.setIfInBounds_toArray, List.set_cons_zero, List.set_cons_succ]; rfl
       ·
        exact ⟨hI.1.put3 hg.1 _ _ _, fun _ => d12, fun _ => ⟨hg.1, put3 (z := ⟨⟨#[]⟩, ⟨0, 0⟩⟩) hg.2 hd⟩⟩
      case s14 =>
       refine rg_step rfl ?_
       rintro l a W ⟨γ, rfl, hI⟩ hl hd
       have d11 := hd 11 (by decide)
       clear hd
       refine rg_val (v := .int .i64 0) (w' := W) rfl (by go_simp) ?_
       refine ⟨γ, ?_, ?_⟩
       ·
        simp only [Act.put, List.setIfInBounds_toArray, List.set_cons_zero, List.set_cons_succ]; rfl
       ·
        exact hI
     case hend =>
      rintro l a W ⟨γ, rfl, hI⟩ hall
      have e0 := hall 0 (by decide)
      have e1 := hall 1 (by decide)
      have e2 := hall 2 (by decide)
      have e3 := hall 3 (by decide)
      have e4 := hall 4 (by decide)
      have e5 := hall 5 (by decide)
      have e6 := hall 6 (by decide)
      have e7 := hall 7 (by decide)
      have e8 := hall 8 (by decide)
      have e9 := hall 9 (by decide)
      have e10 := hall 10 (by decide)
      have e11 := hall 11 (by decide)
      have e12 := hall 12 (by decide)
      have e13 := hall 13 (by decide)
      have e14 := hall 14 (by decide)
      clear hall
      have hn := hI.2.2 e12
      rw [if_pos e13] at hn
      simp only [e0, e1, e2, e3, e4, e5, e6, e7, e8, e9, e10, e11, e12, e13, e14, sel_true]
      clear e0 e1 e2 e3 e4 e5 e6 e7 e8 e9 e10 e11 e12 e13 e14
      generalize γ = h at hn ⊢
      have hs22 : HvT w W g ⟨z1, ⟨z2, z3⟩⟩ h hd := ⟨hI.1.hB, hI.1.hG, hn.2, hI.1.g0, hn.1⟩
      have HS22 := aM' hs22
      clear hI hn hs22 s1
      go_upto_region 19 with (fail)
      refine region_inv (fun l a W => ∃ γ : Nat, a = ({ tmps := #[.int .i64 wd, .slice (some ad) ls.length c, .int .u64 p, .int .u8 sm, undef, undef, undef, undef, u8, .int .i64 (n : Int), .pointer (some ⟨g4, 0, none⟩), .int .i64 r4, u12, u13, u14, u15, u16, u17, .slice A2 ss.length c2, .int .i64 (q : Int), .pointer (some ⟨g, 0, none⟩), .int .i64 0, .pointer (some ⟨h, 0, none⟩), .int .i64 0, sel (l 13) (.pointer (some ⟨γ, 0, none⟩)) (undef), sel (l 15) (.int .i64 0) (undef), u26, u27, u28, u29, u30, u31, u32, u33, u34, u35, u36, u37, u38, u39, u40, u41, u42, u43, u44, u45, u46, u47, u48, u49, u50, u51, u52, u53, u54, u55, u56, u57, u58, u59, u60, u61, u62, u63, u64, u65, u66, u67, u68, u69, u70, u71, u72, u73, u74, u75, u76, u77, u78, u79, u80, u81, u82, u83, u84, u85, u86, u87, .slice (some ad) ls.length c, .slice A2 ss.length c2, .int .u8 sm, .int .i64 (wrap64 sm), .slice A2 ss.length c2, .int .i64 (ss.length : Int), .int .i64 (wrap64 ((ss.length : Int) + 1)), .int .i64 (q : Int), .tuple #[.agg #[.string z1, .int .u64 z2, .int .u64 z3], .int .i64 0], .int .i64 wd, .slice (some ad) ls.length c, .pointer (some ad), .agg #[.string n0.f0, .int .u64 n0.f1.f0, .int .u64 n0.f1.f1], .int .u64 p, .slice A2 ss.length c2, .tuple #[.agg #[.string z1, .int .u64 z2, .int .u64 z3], .int .i64 0], .agg #[.string z1, .int .u64 z2, .int .u64 z3], .int .i64 0, .int .i64 0, .bool false, .bool false, .int .i64 (q : Int), .bool false, .bool false, .tuple #[.agg #[.string hd.f0, .int .u64 hd.f1.f0, .int .u64 hd.f1.f1], .int .i64 0], .int .i64 wd, .slice (some ad) ls.length c, .pointer (some ad), .agg #[.string n0.f0, .int .u64 n0.f1.f0, .int .u64 n0.f1.f1], .int .u64 p, .slice A2 ss.length c2, .int .i64 (q : Int), .slice A2 q c2, .tuple #[.agg #[.string hd.f0, .int .u64 hd.f1.f0, .int .u64 hd.f1.f1], .int .i64 0], .agg #[.string hd.f0, .int .u64 hd.f1.f0, .int .u64 hd.f1.f1], .int .i64 0, sel (l 10) (.tuple #[.agg #[.string z1, .int .u64 z2, .int .u64 z3], .int .i64 0]) (u124), sel (l 0) (.int .i64 wd) (u125), sel (l 1) (.agg #[.string hd.f0, .int .u64 hd.f1.f0, .int .u64 hd.f1.f1]) (u126), sel (l 2) (.int .u64 p) (u127), sel (l 3) (.int .i64 (q : Int)) (u128), sel (l 4) (.int .u64 (q : Int)) (u129), sel (l 5) (.int .u64 (p / 2 ^ q)) (u130), sel (l 6) (.slice A2 ss.length c2) (u131), sel (l 7) (.int .i64 (q : Int)) (u132), sel (l 8) (.slice A3 st.length c3) (u133), sel (l 9) (.tuple #[.agg #[.string z1, .int .u64 z2, .int .u64 z3], .int .i64 0]) (u134), sel (l 11) (.agg #[.string z1, .int .u64 z2, .int .u64 z3]) (u135), sel (l 12) (.int .i64 0) (u136), u137, u138, u139, u140, u141, u142, u143, u144, u145, u146, u147], defers := [] } : Act) ∧ (HvT w W g ⟨z1, ⟨z2, z3⟩⟩ h hd ∧ (l 14 = true → l 13 = true) ∧ (l 13 = true → h < γ ∧ W.heap[γ]? = some (.cells (if l 14 = true then #[.string z1, .int .u64 z2, .int .u64 z3] else #[.string ⟨#[]⟩, .int .u64 0, .int .u64 0]) 28 (0, 0))))) 16 rfl rfl (by kernel_rfl) ?h0 ?hend ?hstep
      case h0 => exact ⟨0, rfl, HS22.out.below (below_drew (Below.refl _ _)), fun h => (by cases h), fun h => (by cases h)⟩
      case hstep =>
       refine rg_cons (rg_cons (rg_cons (rg_cons (rg_cons (rg_cons (rg_cons (rg_cons (rg_cons (rg_cons (rg_cons (rg_cons (rg_cons (rg_cons (rg_cons (rg_cons (rg_nil) ?s0) ?s1) ?s2) ?s3) ?s4) ?s5) ?s6) ?s7) ?s8) ?s9) ?s10) ?s11) ?s12) ?s13) ?s14) ?s15
       case s0 =>
        refine rg_step rfl ?_
        rintro l a W ⟨γ, rfl, hI⟩ hl hd
        clear hd
        refine rg_val (v := .int .i64 wd) (w' := W) rfl (by go_simp) ?_
        refine ⟨γ, ?_, ?_⟩
        ·
         simp only [Act.put, List.setIfInBounds_toArray, List.set_cons_zero, List.set_cons_succ]; rfl
        ·
         exact hI
       case s1 =>
        refine rg_step rfl ?_
        rintro l a W ⟨γ, rfl, hI⟩ hl hd
        clear hd
        have x0 := blk_cell hI.1.hH 0
        have x1 := blk_cell hI.1.hH 1
        have x2 := blk_cell hI.1.hH 2
        simp at x0 x1 x2
        refine rg_val (v := .agg #[.string hd.f0, .int .u64 hd.f1.f0, .int .u64 hd.f1.f1]) (w' := W) rfl (by go_simp) ?_
        refine ⟨γ, ?_, ?_⟩
        ·
         simp only [Act.put, List.setIfInBounds_toArray, List.set_cons_zero, List.set_cons_succ]; rfl
        ·
         exact hI
       case s2 =>
        refine rg_step rfl ?_
        rintro l a W ⟨γ, rfl, hI⟩ hl hd
        clear hd
        refine rg_val (v := .int .u64 p) (w' := W) rfl (by go_simp) ?_
        refine ⟨γ, ?_, ?_⟩
        ·
         simp only [Act.put, List.setIfInBounds_toArray, List.set_cons_zero, List.set_cons_succ]; rfl
        ·
         exact hI
       case s3 =>
        refine rg_step rfl ?_
        rintro l a W ⟨γ, rfl, hI⟩ hl hd
        clear hd
        refine rg_val (v := .int .i64 (q : Int)) (w' := W) rfl (by go_simp) ?_
        refine ⟨γ, ?_, ?_⟩
        ·
         simp only [Act.put, List.setIfInBounds_toArray, List.set_cons_zero, List.set_cons_succ]; rfl
        ·
         exact hI
       case s4 =>
        refine rg_step rfl ?_
        rintro l a W ⟨γ, rfl, hI⟩ hl hd
        have d3 := hd 3 (by decide)
        clear hd
        have hq63 := H63.out
        refine rg_val (v := .int .u64 (q : Int)) (w' := W) rfl (by go_simp; first | exact wrapu64_id (by omega) (by omega) | (simp [IntKind.wrap]; omega)) ?_
        refine ⟨γ, ?_, ?_⟩
        ·
         simp only [Act.put, List.setIfInBounds_toArray, List.set_cons_zero, List.set_cons_succ]; rfl
        ·
         exact hI
       case s5 =>
        refine rg_step rfl ?_
        rintro l a W ⟨γ, rfl, hI⟩ hl hd
        have d2 := hd 2 (by decide)
        have d4 := hd 4 (by decide)
        clear hd
        refine rg_val (v := .int .u64 (p / 2 ^ q)) (w' := W) rfl (by go_simp; rw [Nat.min_eq_left (by have := H63.out; omega)]) ?_
        refine ⟨γ, ?_, ?_⟩
        ·
         simp only [Act.put, List.setIfInBounds_toArray, List.set_cons_zero, List.set_cons_succ]; rfl
        ·
         exact hI
       case s6 =>
        refine rg_step rfl ?_
        rintro l a W ⟨γ, rfl, hI⟩ hl hd
        clear hd
        refine rg_val (v := .slice A2 ss.length c2) (w' := W) rfl (by go_simp) ?_
        refine ⟨γ, ?_, ?_⟩
        ·
         simp only [Act.put, List.setIfInBounds_toArray, List.set_cons_zero, List.set_cons_succ]; rfl
        ·
         exact hI
       case s7 =>
        refine rg_step rfl ?_
        rintro l a W ⟨γ, rfl, hI⟩ hl hd
        clear hd
        refine rg_val (v := .int .i64 (q : Int)) (w' := W) rfl (by go_simp) ?_
        refine ⟨γ, ?_, ?_⟩
        ·
         simp only [Act.put, List.setIfInBounds_toArray, List.set_cons_zero, List.set_cons_succ]; rfl
        ·
         exact hI
       case s8 =>
        refine rg_step rfl ?_
        rintro l a W ⟨γ, rfl, hI⟩ hl hd
        have d6 := hd 6 (by decide)
        have d7 := hd 7 (by decide)
        clear hd
        refine rg_val (v := .slice A3 st.length c3) (w' := W) rfl (by go_simp) ?_
        refine ⟨γ, ?_, ?_⟩
        ·
         simp only [Act.put, List.setIfInBounds_toArray, List.set_cons_zero, List.set_cons_succ]; rfl
        ·
         exact hI
       case s9 =>
        refine rg_step rfl ?_
        rintro l a W ⟨γ, rfl, hI⟩ hl hd
        have d0 := hd 0 (by decide)
        have d1 := hd 1 (by decide)
        have d5 := hd 5 (by decide)
        have d8 := hd 8 (by decide)
        clear hd
        refine rg_call rfl (by go_simp; exact ⟨rfl, rfl⟩) ?_
        refine (CALL2.out W hI.1.hB).mono ?_
        rintro x W' ⟨rfl, hb⟩
        refine ⟨_, rfl, γ, ?_, ?_⟩
        ·
         simp only [Act.put, List.setIfInBounds_toArray, List.set_cons_zero, List.set_cons_succ]; rfl
        ·
         exact ⟨hI.1.below hb, fun h => hI.2.1 h, fun h => ⟨(hI.2.2 h).1, blk_below (hI.2.2 h).2 hb⟩⟩
       case s10 =>
        refine rg_step rfl ?_
        rintro l a W ⟨γ, rfl, hI⟩ hl hd
        have d9 := hd 9 (by decide)
        clear hd
        refine rg_val (v := .tuple #[.agg #[.string z1, .int .u64 z2, .int .u64 z3], .int .i64 0]) (w' := W) rfl (by go_simp) ?_
        refine ⟨γ, ?_, ?_⟩
        ·
         simp only [Act.put, List.setIfInBounds_toArray, List.set_cons_zero, List.set_cons_succ]; rfl
        ·
         exact hI
       case s11 =>
        refine rg_step rfl ?_
        rintro l a W ⟨γ, rfl, hI⟩ hl hd
        have d10 := hd 10 (by decide)
        clear hd
        refine rg_val (v := .agg #[.string z1, .int .u64 z2, .int .u64 z3]) (w' := W) rfl (by go_simp) ?_
        refine ⟨γ, ?_, ?_⟩
        ·
         simp only [Act.put, List.setIfInBounds_toArray, List.set_cons_zero, List.set_cons_succ]; rfl
        ·
         exact hI
       case s12 =>
        refine rg_step rfl ?_
        rintro l a W ⟨γ, rfl, hI⟩ hl hd
        have d10 := hd 10 (by decide)
        clear hd
        refine rg_val (v := .int .i64 0) (w' := W) rfl (by go_simp) ?_
        refine ⟨γ, ?_, ?_⟩
        ·
         simp only [Act.put, List.setIfInBounds_toArray, List.set_cons_zero, List.set_cons_succ]; rfl
        ·
         exact hI
       case s13 =>
        refine rg_step rfl ?_
        rintro l a W ⟨γ, rfl, hI⟩ hl hd
        clear hd
        refine rg_val (v := .pointer (some ⟨W.heap.size, 0, none⟩)) (w' := W.alloc (.cells #[.string ⟨#[]⟩, .int .u64 0, .int .u64 0] 28)) rfl (by go_simp) ?_
        refine ⟨W.heap.size, ?_, ?_⟩
        ·
         simp only [Act.put, List.setIfInBounds_toArray, List.set_cons_zero, List.set_cons_succ]; rfl
        ·
         exact ⟨hI.1.below (below_alloc (Below.refl _ _) _), fun _ => rfl, fun _ => ⟨hI.1.lt, by rw [if_neg (show ¬ upd l 13 14 = true from fun h => by have h : l 14 = true := h; rw [hI.2.1 h] at hl; cases hl)]; exact blk_new W _⟩⟩
       case s14 =>
        refine rg_step rfl ?_
        rintro l a W ⟨γ, rfl, hI⟩ hl hd
        have d11 := hd 11 (by decide)
        have d13 := hd 13 (by decide)
        clear hd
        have hg := hI.2.2 d13
        rw [if_neg (by rw [hl]; decide)] at hg
        have y0 := blk_cell hg.2 0
        have y1 := blk_cell hg.2 1
        have y2 := blk_cell hg.2 2
        have yf := fun i => blk_frozen hg.2 i
        simp at y0 y1 y2
        refine rg_skip rfl (by go_simp; rfl) ?_
        refine ⟨γ, ?_, ?_⟩
        ·
         simp only [Act.put, List.setIfInBounds_toArray, List.set_cons_zero, List.set_cons_succ]; rfl
        ·
         exact ⟨hI.1.put3 hg.1 _ _ _, fun _ => d13, fun _ => ⟨hg.1, put3 (z := ⟨⟨#[]⟩, ⟨0, 0⟩⟩) hg.2 ⟨z1, ⟨z2, z3⟩⟩⟩⟩
       case s15 =>
        refine rg_step rfl ?_
        rintro l a W ⟨γ, rfl, hI⟩ hl hd
        have d12 := hd 12 (by decide)
        clear hd
        refine rg_val (v := .int .i64 0) (w' := W) rfl (by go_simp) ?_
        refine ⟨γ, ?_, ?_⟩
        ·
         simp only [Act.put, List.setIfInBounds_toArray, List.set_cons_zero, List.set_cons_succ]; rfl
        ·
         exact hI
      case hend =>
       rintro l a W ⟨γ, rfl, hI⟩ hall
       have e0 := hall 0 (by decide)
       have e1 := hall 1 (by decide)
       have e2 := hall 2 (by decide)
       have e3 := hall 3 (by decide)
       have e4 := hall 4 (by decide)
       have e5 := hall 5 (by decide)
       have e6 := hall 6 (by decide)
       have e7 := hall 7 (by decide)
       have e8 := hall 8 (by decide)
       have e9 := hall 9 (by decide)
       have e10 := hall 10 (by decide)
       have e11 := hall 11 (by decide)
       have e12 := hall 12 (by decide)
       have e13 := hall 13 (by decide)
       have e14 := hall 14 (by decide)
       have e15 := hall 15 (by decide)
       clear hall
       have hn := hI.2.2 e13
       rw [if_pos e14] at hn
       simp only [e0, e1, e2, e3, e4, e5, e6, e7, e8, e9, e10, e11, e12, e13, e14, e15, sel_true]
       clear e0 e1 e2 e3 e4 e5 e6 e7 e8 e9 e10 e11 e12 e13 e14 e15
       generalize γ = g3 at hn ⊢
       have x0 : W.cell? ⟨g, 0, none⟩ = some (.string z1) := blk_cell hI.1.hG 0
       have x1 : W.cell? ⟨g, 1, none⟩ = some (.int .u64 z2) := blk_cell hI.1.hG 1
       have x2 : W.cell? ⟨g, 2, none⟩ = some (.int .u64 z3) := blk_cell hI.1.hG 2
       have y0 : W.cell? ⟨g3, 0, none⟩ = some (.string z1) := blk_cell hn.2 0
       have y1 : W.cell? ⟨g3, 1, none⟩ = some (.int .u64 z2) := blk_cell hn.2 1
       have y2 : W.cell? ⟨g3, 2, none⟩ = some (.int .u64 z3) := blk_cell hn.2 2
       have HBE := aM' hI.1.hB
       clear hI hn s2
       go_wp2
       go_ret
       exact ⟨rfl, HBE.out⟩
   ·
    have hzb : (z4 != 0) = true := by simp [hz]
    clear hz
    go_wp2
    go_ret
    exact ⟨rfl, HS21.out.hB⟩
def paymasterlaw14_NodeHalves.f (a0 : Int) (l : List SNode) (p sm : Int) : Option Bool := if ((0 ≤ p ∧ p < 18446744073709551616) ∧ (0 ≤ sm ∧ sm < 256) ∧ l.length ≤ 9223372036854775807) ∧ ∀ x ∈ l, (0 ≤ x.f1.f0 ∧ x.f1.f0 < 18446744073709551616) ∧ (0 ≤ x.f1.f1 ∧ x.f1.f1 < 18446744073709551616) then some true else none
theorem paymasterlaw14_NodeHalves.calls (a0 : Int) (A : Option Addr) (c : Nat) (l : List SNode) (p sm : Int) (r : Bool) (w : World) (hK : Laid w) (hr : Kd.C kNode w A l.length l) (hc : l.length ≤ c) (h : paymasterlaw14_NodeHalves.f a0 l p sm = some r) :
  Calls Tryd.prog 6 #[.int .i64 a0, .slice A l.length c, .int .u64 p, .int .u8 sm] w fun e w' => e = .returned (.bool r) ∧ Below w.heap.size w w' := by
 unfold paymasterlaw14_NodeHalves.f at h
 split at h
 ·
  rename_i hh
  cases h
  refine halves.calls a0 p sm A c l w hK hr hc hh.1.1 hh.1.2.1 (fun x hx => ⟨(hh.2 x hx).1, (hh.2 x hx).2⟩) (greatN l) (great14_ev l hh.1.2.2) fun hg => ?_
  unfold greatN at hg
  simp only [Bool.or_eq_false_iff, decide_eq_false_iff_not] at hg
  omega
 ·
  cases h
end Go.Proofs.YtijfifphcchbbaaDoor.P
namespace Go.Proofs.YtijfifphcchbbaaDoor.P
open Go.RowKit Go.Proofs.YtijfifphcchbbaaDoorW.PrintWords Go.Proofs.YtijfifphcchbbaaDoorW.PrintLast Go.Proofs.YtijfifphcchbbaaDoorW.PrintMore
set_option linter.unusedVariables false
set_option linter.unusedSimpArgs false
set_option linter.unnecessarySimpa false
theorem pure_NodeHalves : ∀ (y0 : Int) (y1 : (List SNode)) (y2 : Int) (y3 : Int), (Lit.int .i64 y0).wf = true → (y1.length ≤ 140737488355328 ∧ ∀ q0 ∈ y1, wfNode q0) → (Lit.int .u64 y2).wf = true → (Lit.int .u8 y3).wf = true → paymasterlaw14_NodeHalves.f y0 y1 y2 y3 = some true := by
 intro wd l p s _ hl hp hs
 have hp := wf_u64 hp
 have hs := wf_u8 hs
 unfold paymasterlaw14_NodeHalves.f
 rw [if_pos ⟨⟨hp, by omega, by have := hl.1; omega⟩, fun x hx => ⟨wf_u64 (hl.2 x hx).2.1, wf_u64 (hl.2 x hx).2.2⟩⟩]
end Go.Proofs.YtijfifphcchbbaaDoor.P
namespace Go.Proofs.YtijfifphcchbbaaDoor.nodeHalves
open Go.Proofs.YtijfifphcchbbaaDoor.P Go.ChangeShapes Go.WideShapes Go.ChangeAt Go.RowKit
open Go.ChangeMaps (open_string shut_string)
open Go.Proofs.YtijfifphcchbbaaDoorW.PrintWords Go.Proofs.YtijfifphcchbbaaDoorW.PrintLast Go.Proofs.YtijfifphcchbbaaDoorW.PrintMore
set_option linter.unusedVariables false
set_option linter.unusedSimpArgs false
theorem own : ownKnob Tryd.prog.godebug = none := by kernel_rfl
theorem laidOut : laidOutB Tryd.prog = true := by kernel_rfl
set_option maxRecDepth 100000 in
theorem lifted (os : Os) (started : os.Started) (H : Type) (enc : TypeId × Value → H) :
    ReturnsInHanded {} Tryd.checked os 6 .any (fun w args => (Rows.nodeHalvesSpec.pre enc Tryd.prog Tryd.f6 [] false w args ∧ laidMetH Tryd.prog Rows.nodeHalvesRow.laid w) ∧ sizedMet enc Tryd.prog Tryd.f6 (OpenSpec.ofChange Rows.nodeHalvesSpec) false w args)
      (Rows.nodeHalvesSpec.post enc Tryd.prog Tryd.f6 false true false false) := by
  refine returnsInHanded_of_change_and (C := Tryd.checked) (X := fun w _ => laidMetH Tryd.prog Rows.nodeHalvesRow.laid w) (fun _ _ _ hh h => h.of_heap hh) own started (by kernel_rfl) Tryd.func6
    (ChangeSpec.witness_at (enc := enc) (C := Tryd.checked) (os := os) (X := fun w _ => laidMetH Tryd.prog Rows.nodeHalvesRow.laid w) false (P.laidWorld os) #[.int .i64 0, .slice none 0 0, .int .u64 0, .int .u8 0] 8 rfl (by kernel_rfl) (by kernel_rfl) (by kernel_rfl) (by kernel_rfl) (by kernel_rfl) (P.laidWorld_met os _)) ?_
  intro W base args ds gs before hval0 hW _ hsz0 hL _
  have hval : ∀ (j : Nat) t v, Tryd.f6.params[j]? = some t → args[j]? = some v → Value.okWide Tryd.prog W .any base t v := hval0
  have hW' := hW
  obtain ⟨p, q, hA0, hV, rfl, hfz, hnd⟩ := hW
  have hA : DataW.TrodAll enc Tryd.prog W 0 (fun _ => true) true Tryd.f6.params.toList args.toList ds p := hA0
  rw [Tryd.params6] at hA hval
  obtain ⟨v0, vs0, d0, ds0, p0, q0, hargs, rfl, rfl, h0, r0⟩ := trodAll_cons hA
  obtain ⟨v1, vs1, d1, ds1, p1, q1, rfl, rfl, rfl, h1, r1⟩ := trodAll_cons r0
  obtain ⟨v2, vs2, d2, ds2, p2, q2, rfl, rfl, rfl, h2, r2⟩ := trodAll_cons r1
  obtain ⟨v3, vs3, d3, ds3, p3, q3, rfl, rfl, rfl, h3, r3⟩ := trodAll_cons r2
  obtain ⟨rfl, rfl, rfl⟩ := trodAll_nil r3
  obtain rfl : args = #[v0, v1, v2, v3] := by cases args; simp_all
  obtain ⟨rfl, rfl⟩ := trodVars_none hV
  have hz0 : Sized Tryd.prog 3 d0 := Sized.each hsz0 (j := 0) rfl rfl
  have hz1 : Sized Tryd.prog 22 d1 := Sized.each hsz0 (j := 1) rfl rfl
  have hz2 : Sized Tryd.prog 24 d2 := Sized.each hsz0 (j := 2) rfl rfl
  have hz3 : Sized Tryd.prog 5 d3 := Sized.each hsz0 (j := 3) rfl rfl
  have k0 := h0
  have lt0 : ∀ x ∈ p0, x.block < W.heap.size := by obtain ⟨m, hm⟩ := k0; exact DataW.trod_lt m _ _ _ hm
  obtain ⟨y0, rfl, rfl, rfl, w0⟩ := open_int Tryd.underlying3 (hval 0 3 v0 rfl rfl) h0
  have k1 := h1
  have lt1 : ∀ x ∈ p1, x.block < W.heap.size := by obtain ⟨m, hm⟩ := k1; exact DataW.trod_lt m _ _ _ hm
  obtain ⟨a1, len1, cap1, rfl⟩ := okWide_slice Tryd.underlying22 (hval 1 22 v1 rfl rfl)
  obtain ⟨y1, hk1, w1⟩ := (Rd.slice Tryd.underlying22 (by kernel_rfl) (of_decide_eq_true (by kernel_rfl)) rdNode).cell rfl h1 hz1
  obtain ⟨A1, c1, e1, l1, g1⟩ := hk1
  rw [List.cons.injEq] at e1
  obtain ⟨e1, -⟩ := e1
  injection e1 with ea1 el1 ec1
  subst ea1 el1 ec1
  have k2 := h2
  have lt2 : ∀ x ∈ p2, x.block < W.heap.size := by obtain ⟨m, hm⟩ := k2; exact DataW.trod_lt m _ _ _ hm
  obtain ⟨y2, rfl, rfl, rfl, w2⟩ := open_int Tryd.underlying24 (hval 2 24 v2 rfl rfl) h2
  have k3 := h3
  have lt3 : ∀ x ∈ p3, x.block < W.heap.size := by obtain ⟨m, hm⟩ := k3; exact DataW.trod_lt m _ _ _ hm
  obtain ⟨y3, rfl, rfl, rfl, w3⟩ := open_int Tryd.underlying5 (hval 3 5 v3 rfl rfl) h3
  clear hA0 hval0 hsz0
  have h := pure_NodeHalves y0 y1 y2 y3 w0 w1 w2 w3
  refine (paymasterlaw14_NodeHalves.calls y0 _ _ y1 y2 y3 true W (P.laid_of_met hL) g1 l1 h).mono fun e W' ⟨he, bel0⟩ => ?_
  have bel := bel0
  subst he
  exact ⟨_, rfl, _, _, _, [], _, [], hW', trodAll_mk1 (shut_bool Tryd.underlying4 _), (trodAll_cons_mk (Below.trod laidOut (by kernel_rfl) (of_decide_eq_true (by kernel_rfl)) k0 bel lt0) (trodAll_cons_mk (Below.trod laidOut (by kernel_rfl) (of_decide_eq_true (by kernel_rfl)) k1 bel lt1) (trodAll_cons_mk (Below.trod laidOut (by kernel_rfl) (of_decide_eq_true (by kernel_rfl)) k2 bel lt2) (trodAll_cons_mk (Below.trod laidOut (by kernel_rfl) (of_decide_eq_true (by kernel_rfl)) k3 bel lt3) trodAll_mk0)))), rfl, bel.frame _, fun h => by cases h⟩
theorem over : Rows.nodeHalvesRow.holds Tryd.pinned (OpenSpec.ofChange Rows.nodeHalvesSpec) :=
  OpenClaim.holds_of_wide 6 Tryd.f6 rfl rfl rfl rfl rfl rfl rfl ⟨rfl, rfl, rfl, rfl, rfl⟩ rfl rfl rfl rfl rfl (by kernel_rfl) Tryd.func6 (by kernel_rfl)
    (of_decide_eq_true (by kernel_rfl)) (by unfold Func.isWrapper; first | (rw [if_pos (by decide +kernel)]; kernel_rfl) | (rw [if_neg (by decide +kernel)]; exact ⟨rfl, rfl⟩))
    (fun os started H enc _ => lifted os started H enc)
set_option maxRecDepth 100000 in
theorem proved : Rows.NodeHalvesCardSaid :=
  Claim7.holds_tied_plain_at .later [] [.data] true (true, "165769d79d58bfc62aef2440c3d64497f5a859f08bfc759ed4b0f4abe4cad1c8") true
    over (fun _ h => by cases h) (by kernel_rfl) (fun _ h => by cases h) nodeHalves_row_tie rfl ⟨rfl, rfl⟩ (by kernel_rfl) rfl
    (fun f fn hf hfn => by
      obtain rfl : f = 6 := Option.some.inj ((show Tryd.prog.funcNamed "paymaster/paymasterlaw14.NodeHalves" = some 6 by kernel_rfl).symm.trans hf) |>.symm
      obtain rfl : fn = Tryd.f6 := (Option.some.inj (Tryd.func6.symm.trans hfn)).symm
      exact ⟨by kernel_rfl, fun j t ht => by
        rw [Tryd.params6] at ht
        have h3 : t ∈ [3, 22, 24, 5] := by
          have := List.mem_of_getElem? (l := [3, 22, 24, 5]) (i := j) (a := t) (by simpa using ht)
          exact this
        simp only [List.mem_cons, List.not_mem_nil, or_false] at h3
        rcases h3 with rfl | rfl | rfl | rfl
        · exact (show Tryd.prog.wantsStandIn 3 = false by kernel_rfl)
        · exact (show Tryd.prog.wantsStandIn 22 = false by kernel_rfl)
        · exact (show Tryd.prog.wantsStandIn 24 = false by kernel_rfl)
        · exact (show Tryd.prog.wantsStandIn 5 = false by kernel_rfl)
      ⟩)
    (by kernel_rfl)
#print axioms proved
end Go.Proofs.YtijfifphcchbbaaDoor.nodeHalves
namespace Go.Proofs.YtijfifphcchbbaaDoor
/-- The row, under a short name, for the claim. -/
theorem nodeHalves_holds : Rows.NodeHalvesCardSaid := nodeHalves.proved
end Go.Proofs.YtijfifphcchbbaaDoor
