-- Several texts of this workplace as one.
import Derived.Test.YtfcodmdckcihmaaDoorZVerifySpoilt1
import Derived.Test.YtfcodmdckcihmaaDoorProg
import Derived.Deep.OwnRows
import Derived.Laws.Rows
import Derived.Test.YtfcodmdckcihmaaDoorRows
import Derived.Test.YtfcodmdckcihmaaDoorCards
import Derived.Test.YtfcodmdckcihmaaDoorTie
namespace Go.Proofs.YtfcodmdckcihmaaDoor.P
open Go.RowKit Go.Proofs.YtfcodmdckcihmaaDoorW.PrintWords Go.Proofs.YtfcodmdckcihmaaDoorW.PrintLast Go.Proofs.YtfcodmdckcihmaaDoorW.PrintMore
set_option linter.unusedVariables false
set_option linter.unusedSimpArgs false
set_option linter.unnecessarySimpa false
attribute [local go_sem] sel_true
def nodeText (l r : SNode) : ByteArray := (⟨#[1]⟩ : ByteArray) ++ l.f0 ++ u128B l.f1.f0 l.f1.f1 ++ r.f0 ++ u128B r.f1.f0 r.f1.f1
theorem nodeText_size (l r : SNode) : (nodeText l r).size = 33 + l.f0.size + r.f0.size := by
 simp only [nodeText, ByteArray.size_append, u128B_size]
 show 1 + _ + _ + _ + _ = _
 omega
structure NtS (w W : World) (l r : SNode) : Prop where
 hB : Below w.heap.size w W
 h0 : W.heap[w.heap.size]? = some (.cells #[.string l.f0, .int .u64 l.f1.f0, .int .u64 l.f1.f1] 46 (0, 0))
 h1 : W.heap[w.heap.size + 1]? = some (.cells #[.string r.f0, .int .u64 r.f1.f0, .int .u64 r.f1.f1] 46 (0, 0))
theorem NtS.below {w W W' : World} {l r : SNode} (h : NtS w W l r) (hb : Below W.heap.size W W') : NtS w W' l r := ⟨h.hB.trans (hb.mono h.hB.size), blk_below h.h0 hb, blk_below h.h1 hb⟩
set_option maxRecDepth 100000 in
set_option maxHeartbeats 2000000 in
theorem nodeText.calls (l r : SNode) (hl : l.f0.size ≤ 1000000) (hr : r.f0.size ≤ 1000000) (w : World) :
  Calls Tryd.prog 33 #[.agg #[.string l.f0, .int .u64 l.f1.f0, .int .u64 l.f1.f1], .agg #[.string r.f0, .int .u64 r.f1.f0, .int .u64 r.f1.f1]] w fun e w' => e = .returned (.string (nodeText l r)) ∧ Below w.heap.size w w' := by
 have HL := aM' hl
 have HR := aM' hr
 have HT := aM' (show nodeText l r = (⟨#[1]⟩ : ByteArray) ++ l.f0 ++ u128B l.f1.f0 l.f1.f1 ++ r.f0 ++ u128B r.f1.f0 r.f1.f1 from rfl)
 have hz1 : ByteArray.size (⟨#[1]⟩ : ByteArray) = 1 := rfl
 have HZ := aM' hz1
 clear hl hr hz1
 obtain ⟨bl, hbl⟩ : ∃ b, b = u128B l.f1.f0 l.f1.f1 := ⟨_, rfl⟩
 obtain ⟨br, hbr⟩ : ∃ b, b = u128B r.f1.f0 r.f1.f1 := ⟨_, rfl⟩
 have HBl := aM' (show bl.size = 16 by rw [hbl, u128B_size])
 have HBr := aM' (show br.size = 16 by rw [hbr, u128B_size])
 have HFl := aM' (show u128_Bytes.f l.f1.f0 l.f1.f1 = some bl by rw [hbl]; exact u128Bytes_eq _ _)
 have HFr := aM' (show u128_Bytes.f r.f1.f0 r.f1.f1 = some br by rw [hbr]; exact u128Bytes_eq _ _)
 rw [← hbl, ← hbr] at HT
 clear hbl hbr
 go_enter Tryd.func33, Tryd.ntmps33
 go_wp2
 have HS := aM' (show NtS w ((w.alloc (.cells #[.string l.f0, .int .u64 l.f1.f0, .int .u64 l.f1.f1] 46)).alloc (.cells #[.string r.f0, .int .u64 r.f1.f0, .int .u64 r.f1.f1] 46)) l r from
  ⟨below_alloc (below_alloc (Below.refl _ _) _) _, blk_alloc (blk_new w _) _, by have := blk_new (w.alloc (.cells #[.string l.f0, .int .u64 l.f1.f0, .int .u64 l.f1.f1] 46)) (.cells #[.string r.f0, .int .u64 r.f1.f0, .int .u64 r.f1.f1] 46); rwa [World.size_alloc] at this⟩)
 refine region_inv (fun l_ a W => ∃ γ : Nat, a = ({ tmps := #[.agg #[.string l.f0, .int .u64 l.f1.f0, .int .u64 l.f1.f1], .agg #[.string r.f0, .int .u64 r.f1.f0, .int .u64 r.f1.f1], .pointer (some ⟨w.heap.size, 0, none⟩), .pointer (some ⟨w.heap.size + 1, 0, none⟩), sel (l_ 16) (.string ((⟨#[1]⟩ : ByteArray) ++ l.f0 ++ bl ++ r.f0 ++ br)) (.string ⟨#[]⟩), sel (l_ 0) (.slice (some ⟨γ, 0, none⟩) 1 1) (undef), sel (l_ 1) (.string (⟨#[1]⟩ : ByteArray)) (undef), sel (l_ 2) (.pointer (some ⟨w.heap.size, 0, none⟩)) (undef), sel (l_ 3) (.string l.f0) (undef), sel (l_ 4) (.string ((⟨#[1]⟩ : ByteArray) ++ l.f0)) (undef), sel (l_ 5) (.pointer (some ⟨w.heap.size, 1, none⟩)) (undef), sel (l_ 6) (.agg #[.int .u64 l.f1.f0, .int .u64 l.f1.f1]) (undef), sel (l_ 7) (.string bl) (undef), sel (l_ 8) (.string ((⟨#[1]⟩ : ByteArray) ++ l.f0 ++ bl)) (undef), sel (l_ 9) (.pointer (some ⟨w.heap.size + 1, 0, none⟩)) (undef), sel (l_ 10) (.string r.f0) (undef), sel (l_ 11) (.string ((⟨#[1]⟩ : ByteArray) ++ l.f0 ++ bl ++ r.f0)) (undef), sel (l_ 12) (.pointer (some ⟨w.heap.size + 1, 1, none⟩)) (undef), sel (l_ 13) (.agg #[.int .u64 r.f1.f0, .int .u64 r.f1.f1]) (undef), sel (l_ 14) (.string br) (undef), sel (l_ 15) (.string ((⟨#[1]⟩ : ByteArray) ++ l.f0 ++ bl ++ r.f0 ++ br)) (undef)], defers := [] } : Act) ∧ (NtS w W l r ∧ (l_ 0 = true → W.heap[γ]? = some (.cells #[.int .u8 1] 5 (0, 0))))) 17 rfl rfl (by kernel_rfl) ?h0 ?hend ?hstep
 case h0 => exact ⟨0, rfl, HS.out.below (below_drew (Below.refl _ _)), fun h => by cases h⟩
 case hstep =>
  refine rg_cons (rg_cons (rg_cons (rg_cons (rg_cons (rg_cons (rg_cons (rg_cons (rg_cons (rg_cons (rg_cons (rg_cons (rg_cons (rg_cons (rg_cons (rg_cons (rg_cons (rg_nil) ?s0) ?s1) ?s2) ?s3) ?s4) ?s5) ?s6) ?s7) ?s8) ?s9) ?s10) ?s11) ?s12) ?s13) ?s14) ?s15) ?s16
  case s0 =>
   refine rg_step rfl ?_
   rintro l_ a W ⟨γ, rfl, hI⟩ hl hd
   clear hd
   refine rg_val (v := .slice (some ⟨W.heap.size, 0, none⟩) 1 1) (w' := W.alloc (.cells #[.int .u8 1] 5)) rfl (by go_simp) ?_
   refine ⟨W.heap.size, ?_, ?_⟩
   ·
    simp only [Act.put, List.setIfInBounds_toArray, List.set_cons_zero, List.set_cons_succ]; rfl
   ·
    exact ⟨hI.1.below (below_alloc (Below.refl _ _) _), fun _ => blk_new W _⟩
  case s1 =>
   refine rg_step rfl ?_
   rintro l_ a W ⟨γ, rfl, hI⟩ hl hd
   have d0 := hd 0 (by decide)
   clear hd
   have y0 := blk_cell (hI.2 d0) 0
   simp at y0
   refine rg_val (v := .string (⟨#[1]⟩ : ByteArray)) (w' := W) rfl ?_ ?_
   ·
    have hcv := run_convert_bytes_arg (P := Tryd.prog) (w := W) 125 5 Tryd.underlying125 Tryd.underlying5 γ 0 1 1 [1] rfl (fun i hi => by obtain rfl : i = 0 := (by omega); exact y0) 9 Tryd.underlying9
    rw [show strOfNums [1] = (⟨#[1]⟩ : ByteArray) from rfl] at hcv
    go_simp
   refine ⟨γ, ?_, ?_⟩
   ·
    simp only [Act.put, List.setIfInBounds_toArray, List.set_cons_zero, List.set_cons_succ]; rfl
   ·
    exact hI
  case s2 =>
   refine rg_step rfl ?_
   rintro l_ a W ⟨γ, rfl, hI⟩ hl hd
   clear hd
   refine rg_val (v := .pointer (some ⟨w.heap.size, 0, none⟩)) (w' := W) rfl (by go_simp) ?_
   refine ⟨γ, ?_, ?_⟩
   ·
    simp only [Act.put, List.setIfInBounds_toArray, List.set_cons_zero, List.set_cons_succ]; rfl
   ·
    exact hI
  case s3 =>
   refine rg_step rfl ?_
   rintro l_ a W ⟨γ, rfl, hI⟩ hl hd
   have d2 := hd 2 (by decide)
   clear hd
   have x0 := blk_cell (hI.1.h0) 0
   simp at x0
   refine rg_val (v := .string l.f0) (w' := W) rfl (by go_simp) ?_
   refine ⟨γ, ?_, ?_⟩
   ·
    simp only [Act.put, List.setIfInBounds_toArray, List.set_cons_zero, List.set_cons_succ]; rfl
   ·
    exact hI
  case s4 =>
   refine rg_step rfl ?_
   rintro l_ a W ⟨γ, rfl, hI⟩ hl hd
   have d1 := hd 1 (by decide)
   have d3 := hd 3 (by decide)
   clear hd
   refine rg_val (v := .string ((⟨#[1]⟩ : ByteArray) ++ l.f0)) (w' := W) rfl (by go_simp; have := HL.out; have := HR.out; have := HBl.out; have := HBr.out; omega) ?_
   refine ⟨γ, ?_, ?_⟩
   ·
    simp only [Act.put, List.setIfInBounds_toArray, List.set_cons_zero, List.set_cons_succ]; rfl
   ·
    exact hI
  case s5 =>
   refine rg_step rfl ?_
   rintro l_ a W ⟨γ, rfl, hI⟩ hl hd
   clear hd
   refine rg_val (v := .pointer (some ⟨w.heap.size, 1, none⟩)) (w' := W) rfl (by go_simp) ?_
   refine ⟨γ, ?_, ?_⟩
   ·
    simp only [Act.put, List.setIfInBounds_toArray, List.set_cons_zero, List.set_cons_succ]; rfl
   ·
    exact hI
  case s6 =>
   refine rg_step rfl ?_
   rintro l_ a W ⟨γ, rfl, hI⟩ hl hd
   have d5 := hd 5 (by decide)
   clear hd
   have x1 := blk_cell (hI.1.h0) 1
   have x2 := blk_cell (hI.1.h0) 2
   simp at x1 x2
   refine rg_val (v := .agg #[.int .u64 l.f1.f0, .int .u64 l.f1.f1]) (w' := W) rfl (by go_simp) ?_
   refine ⟨γ, ?_, ?_⟩
   ·
    simp only [Act.put, List.setIfInBounds_toArray, List.set_cons_zero, List.set_cons_succ]; rfl
   ·
    exact hI
  case s7 =>
   refine rg_step rfl ?_
   rintro l_ a W ⟨γ, rfl, hI⟩ hl hd
   have d6 := hd 6 (by decide)
   clear hd
   refine rg_call rfl (by go_simp; exact ⟨rfl, rfl⟩) ?_
   refine (u128_Bytes.calls _ _ _ _ HFl.out).mono ?_
   rintro x W' ⟨rfl, hb⟩
   refine ⟨_, rfl, γ, ?_, ?_⟩
   ·
    simp only [Act.put, List.setIfInBounds_toArray, List.set_cons_zero, List.set_cons_succ]; rfl
   ·
    exact ⟨hI.1.below hb, fun h => blk_below (hI.2 h) hb⟩
  case s8 =>
   refine rg_step rfl ?_
   rintro l_ a W ⟨γ, rfl, hI⟩ hl hd
   have d4 := hd 4 (by decide)
   have d7 := hd 7 (by decide)
   clear hd
   refine rg_val (v := .string ((⟨#[1]⟩ : ByteArray) ++ l.f0 ++ bl)) (w' := W) rfl (by go_simp; have := HL.out; have := HR.out; have := HBl.out; have := HBr.out; omega) ?_
   refine ⟨γ, ?_, ?_⟩
   ·
    simp only [Act.put, List.setIfInBounds_toArray, List.set_cons_zero, List.set_cons_succ]; rfl
   ·
    exact hI
  case s9 =>
   refine rg_step rfl ?_
   rintro l_ a W ⟨γ, rfl, hI⟩ hl hd
   clear hd
   refine rg_val (v := .pointer (some ⟨w.heap.size + 1, 0, none⟩)) (w' := W) rfl (by go_simp) ?_
   refine ⟨γ, ?_, ?_⟩
   ·
    simp only [Act.put, List.setIfInBounds_toArray, List.set_cons_zero, List.set_cons_succ]; rfl
   ·
    exact hI
  case s10 =>
   refine rg_step rfl ?_
   rintro l_ a W ⟨γ, rfl, hI⟩ hl hd
   have d9 := hd 9 (by decide)
   clear hd
   have x0 := blk_cell (hI.1.h1) 0
   simp at x0
   refine rg_val (v := .string r.f0) (w' := W) rfl (by go_simp) ?_
   refine ⟨γ, ?_, ?_⟩
   ·
    simp only [Act.put, List.setIfInBounds_toArray, List.set_cons_zero, List.set_cons_succ]; rfl
   ·
    exact hI
  case s11 =>
   refine rg_step rfl ?_
   rintro l_ a W ⟨γ, rfl, hI⟩ hl hd
   have d8 := hd 8 (by decide)
   have d10 := hd 10 (by decide)
   clear hd
   refine rg_val (v := .string ((⟨#[1]⟩ : ByteArray) ++ l.f0 ++ bl ++ r.f0)) (w' := W) rfl (by go_simp; have := HL.out; have := HR.out; have := HBl.out; have := HBr.out; omega) ?_
   refine ⟨γ, ?_, ?_⟩
   ·
    simp only [Act.put, List.setIfInBounds_toArray, List.set_cons_zero, List.set_cons_succ]; rfl
   ·
    exact hI
  case s12 =>
   refine rg_step rfl ?_
   rintro l_ a W ⟨γ, rfl, hI⟩ hl hd
   clear hd
   refine rg_val (v := .pointer (some ⟨w.heap.size + 1, 1, none⟩)) (w' := W) rfl (by go_simp) ?_
   refine ⟨γ, ?_, ?_⟩
   ·
    simp only [Act.put, List.setIfInBounds_toArray, List.set_cons_zero, List.set_cons_succ]; rfl
   ·
    exact hI
  case s13 =>
   refine rg_step rfl ?_
   rintro l_ a W ⟨γ, rfl, hI⟩ hl hd
   have d12 := hd 12 (by decide)
   clear hd
   have x1 := blk_cell (hI.1.h1) 1
   have x2 := blk_cell (hI.1.h1) 2
   simp at x1 x2
   refine rg_val (v := .agg #[.int .u64 r.f1.f0, .int .u64 r.f1.f1]) (w' := W) rfl (by go_simp) ?_
   refine ⟨γ, ?_, ?_⟩
   ·
    simp only [Act.put, List.setIfInBounds_toArray, List.set_cons_zero, List.set_cons_succ]; rfl
   ·
    exact hI
  case s14 =>
   refine rg_step rfl ?_
   rintro l_ a W ⟨γ, rfl, hI⟩ hl hd
   have d13 := hd 13 (by decide)
   clear hd
   refine rg_call rfl (by go_simp; exact ⟨rfl, rfl⟩) ?_
   refine (u128_Bytes.calls _ _ _ _ HFr.out).mono ?_
   rintro x W' ⟨rfl, hb⟩
   refine ⟨_, rfl, γ, ?_, ?_⟩
   ·
    simp only [Act.put, List.setIfInBounds_toArray, List.set_cons_zero, List.set_cons_succ]; rfl
   ·
    exact ⟨hI.1.below hb, fun h => blk_below (hI.2 h) hb⟩
  case s15 =>
   refine rg_step rfl ?_
   rintro l_ a W ⟨γ, rfl, hI⟩ hl hd
   have d11 := hd 11 (by decide)
   have d14 := hd 14 (by decide)
   clear hd
   refine rg_val (v := .string ((⟨#[1]⟩ : ByteArray) ++ l.f0 ++ bl ++ r.f0 ++ br)) (w' := W) rfl (by go_simp; have := HL.out; have := HR.out; have := HBl.out; have := HBr.out; omega) ?_
   refine ⟨γ, ?_, ?_⟩
   ·
    simp only [Act.put, List.setIfInBounds_toArray, List.set_cons_zero, List.set_cons_succ]; rfl
   ·
    exact hI
  case s16 =>
   refine rg_step rfl ?_
   rintro l_ a W ⟨γ, rfl, hI⟩ hl hd
   have d15 := hd 15 (by decide)
   clear hd
   refine rg_val (v := .string ((⟨#[1]⟩ : ByteArray) ++ l.f0 ++ bl ++ r.f0 ++ br)) (w' := W) rfl (by go_simp) ?_
   refine ⟨γ, ?_, ?_⟩
   ·
    simp only [Act.put, List.setIfInBounds_toArray, List.set_cons_zero, List.set_cons_succ]; rfl
   ·
    exact hI
 case hend =>
  rintro l_ a W ⟨γ, rfl, hI⟩ hall
  have e0 := hall 0 (by decide)
  have e1 := hall 1 (by decide)
  have e2 := hall 2 (by decide)
  have e3 := hall 3 (by decide)
  have e4 := hall 4 (by decide)
  have e5 := hall 5 (by decide)
  have e6 := hall 6 (by decide)
  have e7 := hall 7 (by decide)
  have e8 := hall 8 (by decide)
  have e9 := hall 9 (by decide)
  have e10 := hall 10 (by decide)
  have e11 := hall 11 (by decide)
  have e12 := hall 12 (by decide)
  have e13 := hall 13 (by decide)
  have e14 := hall 14 (by decide)
  have e15 := hall 15 (by decide)
  have e16 := hall 16 (by decide)
  clear hall
  simp only [e0, e1, e2, e3, e4, e5, e6, e7, e8, e9, e10, e11, e12, e13, e14, e15, e16, sel_true]
  clear e0 e1 e2 e3 e4 e5 e6 e7 e8 e9 e10 e11 e12 e13 e14 e15 e16
  have HI := aM' hI.1
  clear hI
  go_wp2
  go_ret
  exact ⟨by rw [HT.out]; rfl, HI.out.hB⟩
def tag_NodeText.f (a0 : ByteArray) (a1 a2 : Int) (b0 : ByteArray) (b1 b2 : Int) : Option ByteArray := if a0.size ≤ 1000000 ∧ b0.size ≤ 1000000 then some (nodeText ⟨a0, ⟨a1, a2⟩⟩ ⟨b0, ⟨b1, b2⟩⟩) else none
theorem tag_NodeText.calls (a0 : ByteArray) (a1 a2 : Int) (b0 : ByteArray) (b1 b2 : Int) (r : ByteArray) (w : World) (h : tag_NodeText.f a0 a1 a2 b0 b1 b2 = some r) :
  Calls Tryd.prog 33 #[.agg #[.string a0, .int .u64 a1, .int .u64 a2], .agg #[.string b0, .int .u64 b1, .int .u64 b2]] w fun e w' => e = .returned (.string r) ∧ Below w.heap.size w w' := by
 unfold tag_NodeText.f at h
 split at h
 ·
  rename_i hh
  obtain rfl := Option.some.inj h
  exact nodeText.calls ⟨a0, ⟨a1, a2⟩⟩ ⟨b0, ⟨b1, b2⟩⟩ hh.1 hh.2 w
 ·
  cases h
end Go.Proofs.YtfcodmdckcihmaaDoor.P
namespace Go.Proofs.YtfcodmdckcihmaaDoor.P
open Go.RowKit Go.Proofs.YtfcodmdckcihmaaDoorW.PrintWords Go.Proofs.YtfcodmdckcihmaaDoorW.PrintLast Go.Proofs.YtfcodmdckcihmaaDoorW.PrintMore
set_option linter.unusedVariables false
set_option linter.unusedSimpArgs false
set_option linter.unnecessarySimpa false
theorem ext_ext (t : ByteArray) (a i j : Nat) (h : a + j ≤ t.size) : (t.extract a t.size).extract i j = t.extract (a + i) (a + j) := by
 rw [ByteArray.extract_extract]
 congr 1
 omega
theorem chainI_front (t : ByteArray) (s : S8) : ∀ n, 64 * (n + 1) ≤ t.size → chainI s t (n + 1) = chainI (nextI s (t.extract 0 64)) (t.extract 64 t.size) n
 | 0, h => rfl
 | n + 1, h => by
  rw [chainI, chainI_front t s n (by omega), chainI, ext_ext t 64 _ _ (by omega), show 64 + 64 * n = 64 * (n + 1) by omega, show 64 + (64 * n + 64) = 64 * (n + 1) + 64 by omega]
theorem eat_blksN : ∀ (n : Nat) (t : ByteArray), t.size / 64 = n → ∀ r : Run, (blksN n t).foldl eat r = ⟨chainI r.s t n, t.extract (64 * n) t.size, r.n⟩
 | 0, t, h, r => by
  simp only [blksN, List.foldl_cons, List.foldl_nil, eat, chainI]
  simp
 | n + 1, t, h, r => by
  have h64 : 64 * (n + 1) ≤ t.size := by omega
  have hs : (t.extract 64 t.size).size = t.size - 64 := by rw [ByteArray.size_extract]; omega
  rw [blksN, List.foldl_cons, eat_blksN n _ (by rw [hs]; omega)]
  simp only [eat, if_true]
  rw [chainI_front t r.s n h64, hs, ext_ext t 64 _ _ (by omega), show 64 + 64 * n = 64 * (n + 1) by omega, show 64 + (t.size - 64) = t.size by omega]
def ran (t : ByteArray) : Run := ⟨chainI firstI t (t.size / 64), t.extract (64 * (t.size / 64)) t.size, (t.size : Int)⟩
theorem chainI_append (s : S8) (t u : ByteArray) : ∀ n, 64 * n ≤ t.size → chainI s (t ++ u) n = chainI s t n
 | 0, _ => rfl
 | n + 1, h => by
  rw [chainI, chainI, chainI_append s t u n (by omega), ByteArray.extract_append]
  have : u.extract (64 * n - t.size) (64 * n + 64 - t.size) = ByteArray.empty := by
   rw [show 64 * n - t.size = 0 by omega, show 64 * n + 64 - t.size = 0 by omega]; simp
  rw [this, ByteArray.append_empty]
theorem chainI_plus (s : S8) (t : ByteArray) (a : Nat) : ∀ n, 64 * (a + n) ≤ t.size → chainI (chainI s t a) (t.extract (64 * a) t.size) n = chainI s t (a + n)
 | 0, _ => rfl
 | n + 1, h => by
  rw [chainI, chainI_plus s t a n (by omega), ← Nat.add_assoc, chainI, ext_ext t (64 * a) _ _ (by omega), show 64 * a + 64 * n = 64 * (a + n) by omega, show 64 * a + (64 * n + 64) = 64 * (a + n) + 64 by omega]
theorem ext_over (t : ByteArray) (i j : Nat) (h : t.size ≤ j) : t.extract i j = t.extract i t.size := by
 apply ByteArray.ext
 rw [ByteArray.data_extract, ByteArray.data_extract]
 rcases Nat.lt_or_eq_of_le h with h | h
 ·
  exact Array.extract_of_size_lt h
 ·
  rw [← h]
theorem ext_cat (t u : ByteArray) (a : Nat) (h : a ≤ t.size) : t.extract a t.size ++ u = (t ++ u).extract a (t ++ u).size := by
 rw [ByteArray.extract_append, ByteArray.size_append, ext_over t a (t.size + u.size) (by omega), show a - t.size = 0 by omega, show t.size + u.size - t.size = u.size by omega]
 rw [show u.extract 0 u.size = u by simp]
theorem takeI_ran (t u : ByteArray) (h : t.size + u.size < 18446744073709551616) : takeI (ran t) u = ran (t ++ u) := by
 have ha : 64 * (t.size / 64) ≤ t.size := by omega
 have hs : (t ++ u).size = t.size + u.size := ByteArray.size_append
 have hc := ext_cat t u (64 * (t.size / 64)) ha
 have hz : ((t ++ u).extract (64 * (t.size / 64)) (t ++ u).size).size = t.size + u.size - 64 * (t.size / 64) := by rw [ByteArray.size_extract, hs]; omega
 unfold takeI ran
 rw [hc, blks, eat_blksN _ _ rfl]
 rw [← chainI_append firstI t u _ ha, chainI_plus firstI (t ++ u) (t.size / 64) _ (by rw [hz, hs]; omega), hz, hs, ← hs, ext_ext _ _ _ _ (by rw [hs]; omega), hs]
 have e1 : t.size / 64 + (t.size + u.size - 64 * (t.size / 64)) / 64 = (t.size + u.size) / 64 := by omega
 have e2 : 64 * (t.size / 64) + 64 * ((t.size + u.size - 64 * (t.size / 64)) / 64) = 64 * ((t.size + u.size) / 64) := by omega
 have e3 : 64 * (t.size / 64) + (t.size + u.size - 64 * (t.size / 64)) = t.size + u.size := by omega
 have e4 : IntKind.u64.wrap ((t.size : Int) + (u.size : Int)) = ((t.size + u.size : Nat) : Int) := by rw [IntKind.wrap_u64]; omega
 rw [e1, e2, e3, e4]
theorem newRun_ran : newRun = ran ByteArray.empty := rfl
theorem ran_sum (t : ByteArray) (h : t.size < 1000000000000) : (ran t).sum = refSumI t := by
 have hp : (padI (t.size : Int)).size ≤ 72 := by rw [padI_size]; unfold padZ; omega
 rw [Run.sum, show (ran t).n = (t.size : Int) from rfl, takeI_ran t _ (by omega)]
 rfl
theorem sumI_ref (t : ByteArray) (h : t.size < 1000000000000) : sumI t = refSumI t := by
 have e : takeI newRun t = ran t := by
  rw [newRun_ran, takeI_ran _ _ (by show 0 + t.size < _; omega), ByteArray.empty_append]
 rw [sumI, e, ran_sum t h]
end Go.Proofs.YtfcodmdckcihmaaDoor.P
namespace Go.Proofs.YtfcodmdckcihmaaDoor.P
open Go.RowKit Go.Proofs.YtfcodmdckcihmaaDoorW.PrintWords Go.Proofs.YtfcodmdckcihmaaDoorW.PrintLast Go.Proofs.YtfcodmdckcihmaaDoorW.PrintMore
set_option linter.unusedVariables false
set_option linter.unusedSimpArgs false
set_option linter.unnecessarySimpa false
structure OkU (u : SU128) : Prop where
 h0 : 0 ≤ u.f0 ∧ u.f0 < 18446744073709551616
 h1 : 0 ≤ u.f1 ∧ u.f1 < 18446744073709551616
theorem tagNodeText_eq (l r : SNode) (hl : l.f0.size ≤ 1000000) (hr : r.f0.size ≤ 1000000) : tag_NodeText.f l.f0 l.f1.f0 l.f1.f1 r.f0 r.f1.f0 r.f1.f1 = some (nodeText l r) := by
 unfold tag_NodeText.f
 rw [if_pos ⟨hl, hr⟩]
def dgI (w : Int) (t : ByteArray) : ByteArray := (refSumI t).extract 0 w.toNat
theorem refSumI_len (t : ByteArray) : (refSumI t).size = 32 := by
 rw [refSumI, digestI, strOfNums_size, digL_length]
theorem dgI_size (w : Int) (t : ByteArray) (h0 : 0 ≤ w) (h : w ≤ 32) : (dgI w t).size = w.toNat := by
 rw [dgI, ByteArray.size_extract, refSumI_len]; omega
theorem tagDigest_eq (w : Int) (t : ByteArray) (h0 : 1 ≤ w) (h1 : w ≤ 32) (ht : t.size ≤ 100000000) : tag_Digest.f w t = some (dgI w t) := by
 have e : sha_Sum.f t = some (refSumI t) := by rw [sha_Sum.f, if_pos (by omega), sumI_ref t (by omega)]
 unfold tag_Digest.f tag_MayWidth.f
 rw [if_pos h0]
 simp only [Option.bind_some, decide_eq_true h1, if_true, e]
 rw [if_pos (by omega), if_pos (by rw [refSumI_len]; omega)]
 rfl
def joinI (w : Int) (l r : SNode) : ByteArray × Int × Int × Int :=
 if nodeOf w l = true ∧ nodeOf w r = true then
  (if (addI128 l.f1.f0 l.f1.f1 r.f1.f0 r.f1.f1).2.2 = 0 then (dgI w (nodeText l r), (addI128 l.f1.f0 l.f1.f1 r.f1.f0 r.f1.f1).1, (addI128 l.f1.f0 l.f1.f1 r.f1.f0 r.f1.f1).2.1, 0) else (⟨#[]⟩, 0, 0, 10))
 else (⟨#[]⟩, 0, 0, 70)
theorem nodeOf_w {w : Int} {n : SNode} (h : nodeOf w n = true) : 1 ≤ w ∧ w ≤ 32 ∧ (n.f0.size : Int) = w := by
 simp only [nodeOf, Bool.and_eq_true, decide_eq_true_eq, beq_iff_eq] at h
 exact h
attribute [local go_sem] sel_true
structure JnB (w : World) (l r z : SNode) (W : World) : Prop where
 h4 : W.heap[w.heap.size]? = some (.cells #[.string l.f0, .int .u64 l.f1.f0, .int .u64 l.f1.f1] 46 (0, 0))
 h5 : W.heap[w.heap.size + 1]? = some (.cells #[.string r.f0, .int .u64 r.f1.f0, .int .u64 r.f1.f1] 46 (0, 0))
 h6 : W.heap[w.heap.size + 1 + 1]? = some (.cells #[.string z.f0, .int .u64 z.f1.f0, .int .u64 z.f1.f1] 46 (0, 0))
 hB : Below w.heap.size w W
theorem JnB.below {w W W' : World} {l r z : SNode} (h : JnB w l r z W) (hb : Below W.heap.size W W') : JnB w l r z W' := ⟨blk_below h.h4 hb, blk_below h.h5 hb, blk_below h.h6 hb, h.hB.trans (hb.mono h.hB.size)⟩
theorem JnB.put {w W : World} {l r z : SNode} (h : JnB w l r z W) (y : SNode) : JnB w l r y (((W.setCell ⟨w.heap.size + 1 + 1, 0, none⟩ (.string y.f0)).setCell ⟨w.heap.size + 1 + 1, 1, none⟩ (.int .u64 y.f1.f0)).setCell ⟨w.heap.size + 1 + 1, 2, none⟩ (.int .u64 y.f1.f1)) :=
 ⟨blk_far (blk_far (blk_far h.h4 (by (try dsimp only); omega) _) (by (try dsimp only); omega) _) (by (try dsimp only); omega) _, blk_far (blk_far (blk_far h.h5 (by (try dsimp only); omega) _) (by (try dsimp only); omega) _) (by (try dsimp only); omega) _, blk_put (blk_put (blk_put h.h6 0 _ rfl) 1 _ rfl) 2 _ rfl, below_set (below_set (below_set h.hB (by omega)) (by omega)) (by omega)⟩
theorem JnB.start (w : World) (l r : SNode) : JnB w l r ⟨⟨#[]⟩, ⟨0, 0⟩⟩ (((w.alloc (.cells #[.string l.f0, .int .u64 l.f1.f0, .int .u64 l.f1.f1] 46)).alloc (.cells #[.string r.f0, .int .u64 r.f1.f0, .int .u64 r.f1.f1] 46)).alloc (.cells #[.string ⟨#[]⟩, .int .u64 0, .int .u64 0] 46)) := by
 refine ⟨blk_alloc (blk_alloc (blk_new w _) _) _, blk_alloc ?_ _, ?_, below_alloc (below_alloc (below_alloc (Below.refl _ _) _) _) _⟩
 ·
  have := blk_new (w.alloc (.cells #[.string l.f0, .int .u64 l.f1.f0, .int .u64 l.f1.f1] 46)) (.cells #[.string r.f0, .int .u64 r.f1.f0, .int .u64 r.f1.f1] 46); rwa [World.size_alloc] at this
 ·
  have := blk_new ((w.alloc (.cells #[.string l.f0, .int .u64 l.f1.f0, .int .u64 l.f1.f1] 46)).alloc (.cells #[.string r.f0, .int .u64 r.f1.f0, .int .u64 r.f1.f1] 46)) (.cells #[.string ⟨#[]⟩, .int .u64 0, .int .u64 0] 46); rwa [World.size_alloc, World.size_alloc] at this
set_option maxRecDepth 100000 in
set_option maxHeartbeats 1000000 in
theorem node_Join.walk (wd : Int) (nl nr : SNode) (w : World) (hK : Laid w) (hu1 : OkU nl.f1) (hu2 : OkU nr.f1) :
  Calls Tryd.prog 59 #[.int .i64 wd, .agg #[.string nl.f0, .int .u64 nl.f1.f0, .int .u64 nl.f1.f1], .agg #[.string nr.f0, .int .u64 nr.f1.f0, .int .u64 nr.f1.f1]] w fun e w' => e = .returned (.tuple #[.agg #[.string (joinI wd nl nr).1, .int .u64 (joinI wd nl nr).2.1, .int .u64 (joinI wd nl nr).2.2.1], .int .i64 (joinI wd nl nr).2.2.2]) ∧ Below w.heap.size w w' := by
 obtain ⟨J, hJ⟩ : ∃ J, J = joinI wd nl nr := ⟨_, rfl⟩
 rw [← hJ]
 have HJ := aM' hJ
 clear hJ
 have hu := Tryd.underlying46
 have hu3 := Tryd.underlying34
 have HS := aM' (JnB.start w nl nr)
 have HK := aM' hK
 clear hK
 obtain ⟨W0, hW0⟩ : ∃ V, V = ((w.alloc (.cells #[.string nl.f0, .int .u64 nl.f1.f0, .int .u64 nl.f1.f1] 46)).alloc (.cells #[.string nr.f0, .int .u64 nr.f1.f0, .int .u64 nr.f1.f1] 46)).alloc (.cells #[.string ⟨#[]⟩, .int .u64 0, .int .u64 0] 46) := ⟨_, rfl⟩
 rw [← hW0] at HS
 have HL := aM' hu1
 have HR := aM' hu2
 clear hu1 hu2
 have p0 := blk_cell HS.out.h4 0
 have p1 := blk_cell HS.out.h4 1
 have p2 := blk_cell HS.out.h4 2
 simp at p0 p1 p2
 go_enter Tryd.func59, Tryd.ntmps59
 go_wp2_with fail
 rw [← hW0]
 clear hW0
 refine (node_Of.calls wd nl.f0 nl.f1.f0 nl.f1.f1 (nodeOf wd nl) _ (node_Of_eq wd nl)).mono ?_
 rintro e w1 ⟨rfl, hb⟩
 have HS1 := aM' (HS.out.below hb)
 clear hb p0 p1 p2
 have p0 := fun i => blk_cell HS1.out.h6 i
 have pf := fun i => blk_frozen HS1.out.h6 i
 have q0 := blk_cell HS1.out.h5 0
 have q1 := blk_cell HS1.out.h5 1
 have q2 := blk_cell HS1.out.h5 2
 simp at q0 q1 q2
 have z0 := p0 0
 have z1 := p0 1
 have z2 := p0 2
 simp at z0 z1 z2
 clear p0
 cases h1 : nodeOf wd nl with
 | false =>
  have HI := aM' (show J = (⟨#[]⟩, 0, 0, 70) by rw [HJ.out]; unfold joinI; rw [if_neg (by rw [h1]; simp)])
  have HZ := aM' (HS1.out.put ⟨⟨#[]⟩, ⟨0, 0⟩⟩)
  have y0 := blk_cell HZ.out.h6 0
  have y1 := blk_cell HZ.out.h6 1
  have y2 := blk_cell HZ.out.h6 2
  simp at y0 y1 y2
  clear h1
  go_wp2
  refine bodyPost_ret (v := .tuple #[.agg #[.string ⟨#[]⟩, .int .u64 0, .int .u64 0], .int .i64 70]) ?_ rfl ⟨by rw [HI.out], HZ.out.hB⟩
  simp [results, Tryd.results59, go_sem, hu, y0, y1, y2]
 | true =>
  have H1 := aM' h1
  clear h1
  go_wp2_with fail
  refine (node_Of.calls wd nr.f0 nr.f1.f0 nr.f1.f1 (nodeOf wd nr) _ (node_Of_eq wd nr)).mono ?_
  rintro e w2 ⟨rfl, hb⟩
  have HS2 := aM' (HS1.out.below hb)
  clear hb q0 q1 q2 z0 z1 z2 pf
  have pf := fun i => blk_frozen HS2.out.h6 i
  have z0 := blk_cell HS2.out.h6 0
  have z1 := blk_cell HS2.out.h6 1
  have z2 := blk_cell HS2.out.h6 2
  simp at z0 z1 z2
  cases h2 : nodeOf wd nr with
  | false =>
   have HI := aM' (show J = (⟨#[]⟩, 0, 0, 70) by rw [HJ.out]; unfold joinI; rw [if_neg (by rw [h2]; simp)])
   have HZ := aM' (HS2.out.put ⟨⟨#[]⟩, ⟨0, 0⟩⟩)
   have y0 := blk_cell HZ.out.h6 0
   have y1 := blk_cell HZ.out.h6 1
   have y2 := blk_cell HZ.out.h6 2
   simp at y0 y1 y2
   clear h2
   go_wp2
   refine bodyPost_ret (v := .tuple #[.agg #[.string ⟨#[]⟩, .int .u64 0, .int .u64 0], .int .i64 70]) ?_ rfl ⟨by rw [HI.out], HZ.out.hB⟩
   simp [results, Tryd.results59, go_sem, hu, y0, y1, y2]
  | true =>
   have H2 := aM' h2
   clear h2
   have x1 := blk_cell HS2.out.h4 1
   have x2 := blk_cell HS2.out.h4 2
   have q1 := blk_cell HS2.out.h5 1
   have q2 := blk_cell HS2.out.h5 2
   simp at x1 x2 q1 q2
   obtain ⟨s0, s1, s2, hs⟩ : ∃ s0 s1 s2, addI128 nl.f1.f0 nl.f1.f1 nr.f1.f0 nr.f1.f1 = (s0, s1, s2) := ⟨_, _, _, rfl⟩
   have HSS := aM' hs
   clear hs
   go_wp2_with fail
   refine (u128_Add.calls nl.f1.f0 nl.f1.f1 nr.f1.f0 nr.f1.f1 s0 s1 s2 _ (by rw [← HSS.out]; exact u128Add_eq _ _ _ _ HL.out.h0 HL.out.h1 HR.out.h0 HR.out.h1)).mono ?_
   rintro e w3 ⟨rfl, hb⟩
   have HS3 := aM' (HS2.out.below hb)
   have hs8 := HS3.out.hB.size
   have hs9 := blk_lt HS3.out.h6
   clear hb x1 x2 q1 q2 pf z0 z1 z2
   obtain ⟨g8, hg8⟩ : ∃ g, g = w3.heap.size := ⟨_, rfl⟩
   obtain ⟨W4, hW4⟩ : ∃ V, V = w3.alloc (.cells #[.int .u64 s0, .int .u64 s1] 34) := ⟨_, rfl⟩
   have HS4 := aM' (show JnB w nl nr ⟨⟨#[]⟩, ⟨0, 0⟩⟩ W4 by rw [hW4]; exact HS3.out.below (below_alloc (Below.refl _ _) _))
   have HG8 := aM' (show g8 ≠ w.heap.size + 1 + 1 by rw [hg8]; omega)
   have H8 := aM' (show W4.heap[g8]? = some (.cells #[.int .u64 s0, .int .u64 s1] 34 (0, 0)) by rw [hW4, hg8]; exact blk_new _ _)
   by_cases h0 : s2 = 0
   ·
    have b0 : (s2 == 0) = true := by simp [h0]
    have HI := aM' (show J = (dgI wd (nodeText nl nr), s0, s1, 0) by rw [HJ.out]; unfold joinI; rw [if_pos ⟨H1.out, H2.out⟩, HSS.out, if_pos h0])
    subst h0
    go_upto_region 4 with (fail)
    rw [← hg8, ← hW4]
    clear hg8 hW4
    obtain ⟨w1', w2', e1⟩ := nodeOf_w H1.out
    obtain ⟨_, _, e2⟩ := nodeOf_w H2.out
    have HT := aM' (show nl.f0.size ≤ 32 ∧ nr.f0.size ≤ 32 by omega)
    have HW := aM' (And.intro w1' w2')
    have p0 := blk_cell HS4.out.h4 0
    have p1 := blk_cell HS4.out.h4 1
    have p2 := blk_cell HS4.out.h4 2
    have q0 := blk_cell HS4.out.h5 0
    have q1 := blk_cell HS4.out.h5 1
    have q2 := blk_cell HS4.out.h5 2
    have a0 := blk_cell H8.out 0
    have a1 := blk_cell H8.out 1
    simp at p0 p1 p2 q0 q1 q2 a0 a1
    obtain ⟨dg, hdg⟩ : ∃ d, d = dgI wd (nodeText nl nr) := ⟨_, rfl⟩
    have HDG := aM' hdg
    clear w1' w2' e1 e2 hdg hs8 hs9 b0
    go_upto_region 6 with (fail)
    refine region_inv (fun l a W => a = ({ tmps := #[.int .i64 wd, .agg #[.string nl.f0, .int .u64 nl.f1.f0, .int .u64 nl.f1.f1], .agg #[.string nr.f0, .int .u64 nr.f1.f0, .int .u64 nr.f1.f1], undef, .pointer (some ⟨w.heap.size, 0, none⟩), .pointer (some ⟨w.heap.size + 1, 0, none⟩), .pointer (some ⟨w.heap.size + 1 + 1, 0, none⟩), sel (l 8) (.int .i64 0) (.int .i64 0), .pointer (some ⟨g8, 0, none⟩), .int .i64 0, .int .i64 wd, .agg #[.string nl.f0, .int .u64 nl.f1.f0, .int .u64 nl.f1.f1], .bool true, .bool false, .bool false, .int .i64 wd, .agg #[.string nr.f0, .int .u64 nr.f1.f0, .int .u64 nr.f1.f1], .bool true, .bool false, .bool false, undef, .tuple #[.agg #[.int .u64 s0, .int .u64 s1], .int .i64 0], .pointer (some ⟨w.heap.size, 1, none⟩), .agg #[.int .u64 nl.f1.f0, .int .u64 nl.f1.f1], .pointer (some ⟨w.heap.size + 1, 1, none⟩), .agg #[.int .u64 nr.f1.f0, .int .u64 nr.f1.f1], .tuple #[.agg #[.int .u64 s0, .int .u64 s1], .int .i64 0], .agg #[.int .u64 s0, .int .u64 s1], .int .i64 0, .int .i64 0, .bool false, undef, sel (l 0) (.int .i64 wd) (undef), sel (l 1) (.agg #[.string nl.f0, .int .u64 nl.f1.f0, .int .u64 nl.f1.f1]) (undef), sel (l 2) (.agg #[.string nr.f0, .int .u64 nr.f1.f0, .int .u64 nr.f1.f1]) (undef), sel (l 3) (.string (nodeText nl nr)) (undef), sel (l 4) (.string dg) (undef), sel (l 5) (.agg #[.int .u64 s0, .int .u64 s1]) (undef), sel (l 6) (.agg #[.string dg, .int .u64 s0, .int .u64 s1]) (undef)], defers := [] } : Act) ∧ (JnB w nl nr (if l 7 = true then ⟨dg, ⟨s0, s1⟩⟩ else ⟨⟨#[]⟩, ⟨0, 0⟩⟩) W ∧ W.heap[g8]? = some (.cells #[.int .u64 s0, .int .u64 s1] 34 (0, 0)))) 9 rfl rfl (by kernel_rfl) ?h0 ?hend ?hstep
    case h0 => exact ⟨rfl, HS4.out.below (below_drew (Below.refl _ _)), blk_drew H8.out⟩
    case hstep =>
     refine rg_cons (rg_cons (rg_cons (rg_cons (rg_cons (rg_cons (rg_cons (rg_cons (rg_cons (rg_nil) ?s0) ?s1) ?s2) ?s3) ?s4) ?s5) ?s6) ?s7) ?s8
     case s0 =>
      refine rg_step rfl ?_
      rintro l a W ⟨rfl, hI⟩ hl hd
      clear hd
      refine rg_val (v := .int .i64 wd) (w' := W) rfl (by go_simp) ?_
      refine ⟨?_, ?_⟩
      ·
       simp only [Act.put, List.setIfInBounds_toArray, List.set_cons_zero, List.set_cons_succ]; rfl
      ·
       exact hI
     case s1 =>
      refine rg_step rfl ?_
      rintro l a W ⟨rfl, hI⟩ hl hd
      clear hd
      have x0 := blk_cell (hI.1.h4) 0
      have x1 := blk_cell (hI.1.h4) 1
      have x2 := blk_cell (hI.1.h4) 2
      simp at x0 x1 x2
      refine rg_val (v := .agg #[.string nl.f0, .int .u64 nl.f1.f0, .int .u64 nl.f1.f1]) (w' := W) rfl (by go_simp) ?_
      refine ⟨?_, ?_⟩
      ·
       simp only [Act.put, List.setIfInBounds_toArray, List.set_cons_zero, List.set_cons_succ]; rfl
      ·
       exact hI
     case s2 =>
      refine rg_step rfl ?_
      rintro l a W ⟨rfl, hI⟩ hl hd
      clear hd
      have x0 := blk_cell (hI.1.h5) 0
      have x1 := blk_cell (hI.1.h5) 1
      have x2 := blk_cell (hI.1.h5) 2
      simp at x0 x1 x2
      refine rg_val (v := .agg #[.string nr.f0, .int .u64 nr.f1.f0, .int .u64 nr.f1.f1]) (w' := W) rfl (by go_simp) ?_
      refine ⟨?_, ?_⟩
      ·
       simp only [Act.put, List.setIfInBounds_toArray, List.set_cons_zero, List.set_cons_succ]; rfl
      ·
       exact hI
     case s3 =>
      refine rg_step rfl ?_
      rintro l a W ⟨rfl, hI⟩ hl hd
      have d1 := hd 1 (by decide)
      have d2 := hd 2 (by decide)
      clear hd
      refine rg_call rfl (by go_simp; exact ⟨rfl, rfl⟩) ?_
      refine (tag_NodeText.calls nl.f0 nl.f1.f0 nl.f1.f1 nr.f0 nr.f1.f0 nr.f1.f1 (nodeText nl nr) _ (tagNodeText_eq nl nr (by have := HT.out; omega) (by have := HT.out; omega))).mono ?_
      rintro x W' ⟨rfl, hb⟩
      refine ⟨_, rfl, ?_, ?_⟩
      ·
       simp only [Act.put, List.setIfInBounds_toArray, List.set_cons_zero, List.set_cons_succ]; rfl
      ·
       exact ⟨hI.1.below hb, blk_below hI.2 hb⟩
     case s4 =>
      refine rg_step rfl ?_
      rintro l a W ⟨rfl, hI⟩ hl hd
      have d0 := hd 0 (by decide)
      have d3 := hd 3 (by decide)
      clear hd
      refine rg_call rfl (by go_simp; exact ⟨rfl, rfl⟩) ?_
      refine (tag_Digest.calls wd (nodeText nl nr) dg _ (HK.out.below hI.1.hB) (by rw [HDG.out]; exact tagDigest_eq wd _ HW.out.1 HW.out.2 (by rw [nodeText_size]; have := HT.out; omega))).mono ?_
      rintro x W' ⟨rfl, hb⟩
      refine ⟨_, rfl, ?_, ?_⟩
      ·
       simp only [Act.put, List.setIfInBounds_toArray, List.set_cons_zero, List.set_cons_succ]; rfl
      ·
       exact ⟨hI.1.below hb, blk_below hI.2 hb⟩
     case s5 =>
      refine rg_step rfl ?_
      rintro l a W ⟨rfl, hI⟩ hl hd
      clear hd
      have x0 := blk_cell (hI.2) 0
      have x1 := blk_cell (hI.2) 1
      simp at x0 x1
      refine rg_val (v := .agg #[.int .u64 s0, .int .u64 s1]) (w' := W) rfl (by go_simp) ?_
      refine ⟨?_, ?_⟩
      ·
       simp only [Act.put, List.setIfInBounds_toArray, List.set_cons_zero, List.set_cons_succ]; rfl
      ·
       exact hI
     case s6 =>
      refine rg_step rfl ?_
      rintro l a W ⟨rfl, hI⟩ hl hd
      have d4 := hd 4 (by decide)
      have d5 := hd 5 (by decide)
      clear hd
      refine rg_val (v := .agg #[.string dg, .int .u64 s0, .int .u64 s1]) (w' := W) rfl (by go_simp) ?_
      refine ⟨?_, ?_⟩
      ·
       simp only [Act.put, List.setIfInBounds_toArray, List.set_cons_zero, List.set_cons_succ]; rfl
      ·
       exact hI
     case s7 =>
      refine rg_step rfl ?_
      rintro l a W ⟨rfl, hI⟩ hl hd
      have d6 := hd 6 (by decide)
      clear hd
      have hz := hI.1
      rw [if_neg (by rw [hl]; decide)] at hz
      have pf := fun i => blk_frozen hz.h6 i
      have z0 := blk_cell hz.h6 0
      have z1 := blk_cell hz.h6 1
      have z2 := blk_cell hz.h6 2
      simp at z0 z1 z2
      refine rg_skip rfl (by go_simp; rfl) ?_
      refine ⟨?_, ?_⟩
      ·
       simp only [Act.put, List.setIfInBounds_toArray, List.set_cons_zero, List.set_cons_succ]; rfl
      ·
       exact ⟨hz.put ⟨dg, ⟨s0, s1⟩⟩, blk_far (blk_far (blk_far hI.2 (by exact HG8.out) _) (by exact HG8.out) _) (by exact HG8.out) _⟩
     case s8 =>
      refine rg_step rfl ?_
      rintro l a W ⟨rfl, hI⟩ hl hd
      clear hd
      refine rg_val (v := .int .i64 0) (w' := W) rfl (by go_simp) ?_
      refine ⟨?_, ?_⟩
      ·
       simp only [Act.put, List.setIfInBounds_toArray, List.set_cons_zero, List.set_cons_succ]; rfl
      ·
       exact hI
    case hend =>
     rintro l a W ⟨rfl, hI⟩ hall
     have e0 := hall 0 (by decide)
     have e1 := hall 1 (by decide)
     have e2 := hall 2 (by decide)
     have e3 := hall 3 (by decide)
     have e4 := hall 4 (by decide)
     have e5 := hall 5 (by decide)
     have e6 := hall 6 (by decide)
     have e7 := hall 7 (by decide)
     have e8 := hall 8 (by decide)
     clear hall
     have e7' := e7
     simp only [e0, e1, e2, e3, e4, e5, e6, e7, e8, sel_true]
     clear e0 e1 e2 e3 e4 e5 e6 e7 e8
     have hn := hI.1
     rw [if_pos e7'] at hn
     have y0 := blk_cell hn.h6 0
     have y1 := blk_cell hn.h6 1
     have y2 := blk_cell hn.h6 2
     simp at y0 y1 y2
     clear hn
     have HBF := aM' hI.1.hB
     clear hI e7'
     go_wp2
     refine bodyPost_ret (v := .tuple #[.agg #[.string dg, .int .u64 s0, .int .u64 s1], .int .i64 0]) ?_ rfl ⟨by rw [HI.out, HDG.out], HBF.out⟩
     simp [results, Tryd.results59, go_sem, hu, y0, y1, y2]
   ·
    have b0 : (s2 == 0) = false := by simp [h0]
    have HI := aM' (show J = (⟨#[]⟩, 0, 0, 10) by rw [HJ.out]; unfold joinI; rw [if_pos ⟨H1.out, H2.out⟩, HSS.out, if_neg h0])
    have HZ := aM' (HS4.out.put ⟨⟨#[]⟩, ⟨0, 0⟩⟩)
    have z0 := blk_cell HS4.out.h6 0
    have z1 := blk_cell HS4.out.h6 1
    have z2 := blk_cell HS4.out.h6 2
    have pf := fun i => blk_frozen HS4.out.h6 i
    have y0 := blk_cell HZ.out.h6 0
    have y1 := blk_cell HZ.out.h6 1
    have y2 := blk_cell HZ.out.h6 2
    simp at y0 y1 y2 z0 z1 z2
    clear h0 hs8 hs9
    go_upto_region 4 with (fail)
    rw [← hg8, ← hW4]
    clear hg8 hW4
    go_wp2
    refine bodyPost_ret (v := .tuple #[.agg #[.string ⟨#[]⟩, .int .u64 0, .int .u64 0], .int .i64 10]) ?_ rfl ⟨by rw [HI.out], HZ.out.hB⟩
    simp [results, Tryd.results59, go_sem, hu, y0, y1, y2]
def node_Join.f (k : Nat) (a0 : Int) (a1_0 : ByteArray) (a1_1 : Int) (a1_2 : Int) (a2_0 : ByteArray) (a2_1 : Int) (a2_2 : Int) : Option (ByteArray × Int × Int × Int) :=
 if ((0 ≤ a1_1 ∧ a1_1 < 18446744073709551616) ∧ (0 ≤ a1_2 ∧ a1_2 < 18446744073709551616)) ∧ ((0 ≤ a2_1 ∧ a2_1 < 18446744073709551616) ∧ (0 ≤ a2_2 ∧ a2_2 < 18446744073709551616)) then some (joinI a0 ⟨a1_0, ⟨a1_1, a1_2⟩⟩ ⟨a2_0, ⟨a2_1, a2_2⟩⟩) else none
theorem node_Join.calls (k : Nat) (a0 : Int) (a1_0 : ByteArray) (a1_1 : Int) (a1_2 : Int) (a2_0 : ByteArray) (a2_1 : Int) (a2_2 : Int) (r1 : ByteArray) (r2 : Int) (r3 : Int) (r4 : Int) (w : World) (hK : Laid w) (h : node_Join.f k a0 a1_0 a1_1 a1_2 a2_0 a2_1 a2_2 = some (r1, r2, r3, r4)) :
  Calls Tryd.prog 59 #[.int .i64 a0, .agg #[.string a1_0, .int .u64 a1_1, .int .u64 a1_2], .agg #[.string a2_0, .int .u64 a2_1, .int .u64 a2_2]] w fun e w' => e = .returned (.tuple #[.agg #[.string r1, .int .u64 r2, .int .u64 r3], .int .i64 r4]) ∧ Below w.heap.size w w' := by
 unfold node_Join.f at h
 split at h
 ·
  next hh =>
  have q := node_Join.walk a0 ⟨a1_0, ⟨a1_1, a1_2⟩⟩ ⟨a2_0, ⟨a2_1, a2_2⟩⟩ w hK ⟨hh.1.1, hh.1.2⟩ ⟨hh.2.1, hh.2.2⟩
  rw [Option.some.inj h] at q
  exact q
 ·
  cases h
theorem join_ev (w : Int) (l r : SNode) (ul : OkU l.f1) (ur : OkU r.f1) : Ev (fun k => node_Join.f k w l.f0 l.f1.f0 l.f1.f1 r.f0 r.f1.f0 r.f1.f1) (joinI w l r) := by
 unfold node_Join.f
 exact Ev.congr (fun k => if_pos ⟨⟨ul.h0, ul.h1⟩, ⟨ur.h0, ur.h1⟩⟩) (Ev.now _)
end Go.Proofs.YtfcodmdckcihmaaDoor.P
namespace Go.Proofs.YtfcodmdckcihmaaDoor.P
open Go.RowKit Go.Proofs.YtfcodmdckcihmaaDoorW.PrintWords Go.Proofs.YtfcodmdckcihmaaDoorW.PrintLast Go.Proofs.YtfcodmdckcihmaaDoorW.PrintMore
set_option linter.unusedVariables false
set_option linter.unusedSimpArgs false
set_option linter.unnecessarySimpa false
theorem tagLeafText_eq (l : SLeaf) (hid : l.f1.size ≤ 1000000) (hsa : l.f2.size ≤ 1000000) : tag_LeafText.f l.f0 l.f1 l.f2 l.f3.f0 l.f3.f1 = some (leafTextI l) := by
 unfold tag_LeafText.f
 rw [if_pos ⟨hid, hsa⟩]
def leafNodeI (w : Int) (l : SLeaf) : SNode := if (1 ≤ w ∧ w ≤ 32) ∧ mayLeafI l = true then ⟨dgI w (leafTextI l), l.f3⟩ else ⟨⟨#[]⟩, ⟨0, 0⟩⟩
theorem leafTextI_size (l : SLeaf) (hid : l.f1.size ≤ 1000000) (hsa : l.f2.size ≤ 1000000) : (leafTextI l).size ≤ 3000000 := by
 have z : ∀ x : Int, (strOfNums [x]).size = 1 := fun x => by rw [strOfNums_size]; rfl
 unfold leafTextI
 split
 ·
  split
  ·
   simp only [ByteArray.size_append, z, szI_size]; omega
  ·
   simp only [ByteArray.size_append, z, szI_size, u128B_size]; omega
 ·
  decide
abbrev nodeT (n : SNode) : ByteArray × Int × Int := (n.f0, n.f1.f0, n.f1.f1)
theorem tagLeafNode_ev (w : Int) (l : SLeaf) (hid : l.f1.size ≤ 1000000) (hsa : l.f2.size ≤ 1000000) : Ev (fun k => tag_LeafNode.f k w l.f0 l.f1 l.f2 l.f3.f0 l.f3.f1) (nodeT (leafNodeI w l)) := by
 unfold tag_LeafNode.f tag_MayWidth.f leafNodeI
 rw [tagMayLeaf_eq l hid]
 have hj : ∀ b : Bool, b = true → Ev (fun k => tag_LeafNode.j0 k w b l.f0 l.f1 l.f2 l.f3.f0 l.f3.f1) ((⟨#[]⟩ : ByteArray), 0, 0) := fun b hb => by
  subst hb; exact Ev.step (f := fun _ => some ((⟨#[]⟩ : ByteArray), (0 : Int), (0 : Int))) (fun k => by rw [tag_LeafNode.j0, if_pos rfl]) (Ev.now _)
 by_cases h1 : w ≥ 1
 ·
  by_cases h2 : w ≤ 32
  ·
   simp only [if_pos h1, decide_eq_true h2, Option.bind_some, if_true]
   cases hm : mayLeafI l with
   | false => rw [if_neg (by simp)]; exact hj _ rfl
   | true =>
    rw [if_pos ⟨⟨h1, h2⟩, rfl⟩]
    refine Ev.step (f := fun _ => some _) (fun k => ?_) (Ev.now _)
    rw [tag_LeafNode.j0, if_neg (by decide), tagLeafText_eq l hid hsa]
    simp only [Option.bind_some, tagDigest_eq w (leafTextI l) h1 h2 (by have := leafTextI_size l hid hsa; omega)]
  ·
   simp only [if_pos h1, decide_eq_false h2, Option.bind_some]
   rw [if_neg (fun h => h2 h.1.2)]; exact hj _ rfl
 ·
  simp only [if_neg h1, Option.bind_some]
  rw [if_neg (fun h => h1 h.1.1)]; exact hj _ rfl
theorem leafNodeI_ok (w : Int) (l : SLeaf) (ub : OkU l.f3) : OkU (leafNodeI w l).f1 := by
 unfold leafNodeI; split
 ·
  exact ub
 ·
  exact ⟨⟨by decide, by decide⟩, ⟨by decide, by decide⟩⟩
end Go.Proofs.YtfcodmdckcihmaaDoor.P
namespace Go.Proofs.YtfcodmdckcihmaaDoor.P
open Go.RowKit Go.Proofs.YtfcodmdckcihmaaDoorW.PrintWords Go.Proofs.YtfcodmdckcihmaaDoorW.PrintLast Go.Proofs.YtfcodmdckcihmaaDoorW.PrintMore
set_option linter.unusedVariables false
set_option linter.unusedSimpArgs false
set_option linter.unnecessarySimpa false
attribute [local go_sem] Oper.semAt_some
theorem nodesKeep {w w' : World} {A : Option Addr} {n : Nat} {l : List SNode} (h : Kd.C kNode w A n l) (hb : ∀ a, A = some a → w'.heap[a.block]? = w.heap[a.block]?) : Kd.C kNode w' A n l := by
 obtain ⟨h1, h2, h3⟩ := h
 refine ⟨h1, h2, fun h0 => ?_⟩
 obtain ⟨a, ha, hall⟩ := h3 h0
 refine ⟨a, ha, fun j p hj => ?_⟩
 obtain ⟨cs, hl, hK, hc⟩ := hall j p hj
 obtain rfl := kNode_open hK
 refine ⟨_, hl, kNode_mk w' p, fun i u hu => ?_⟩
 rw [← hc i u hu]
 refine World.cell?_of_block ?_
 have : (a.add (j * kNode.sz + i)).block = a.block := by unfold Addr.add; split <;> rfl
 rw [this]
 exact hb a ha
def KeepS (S : Nat → Prop) (W W' : World) : Prop := ∀ k, S k → W'.heap[k]? = W.heap[k]?
theorem KeepS.trans {S : Nat → Prop} {A B C : World} (h : KeepS S A B) (k : KeepS S B C) : KeepS S A C := fun i hi => (k i hi).trans (h i hi)
theorem KeepS.alloc {S : Nat → Prop} {W w : World} (h : KeepS S W w) (hlt : ∀ k, S k → k < W.heap.size) (v : Obj) : KeepS S W (w.alloc v).drew := fun k hk => by
 have h1 := h k hk
 have h2 : k < w.heap.size := by
  rw [Array.getElem?_eq_getElem (hlt k hk)] at h1
  exact (Array.getElem?_eq_some_iff.1 h1).1
 exact ((World.grownBy_alloc w v none).block k h2 (by simp)).trans h1
def rightS (p : Int) (k : Nat) : Bool := Go.bits .and .u64 (p / 2 ^ k) 1 == 0
def turnsTo (p : Int) (xs : List SNode) (k : Nat) : List (SNode × Bool) := (List.range k).map fun i => (xs.getD i ⟨ByteArray.empty, ⟨0, 0⟩⟩, rightS p i)
theorem turnsTo_succ (p : Int) (xs : List SNode) (k : Nat) (h : k < xs.length) : turnsTo p xs (k + 1) = turnsTo p xs k ++ [(xs[k], rightS p k)] := by
 simp [turnsTo, List.range_succ, List.getD_eq_getElem?_getD, h]
theorem turnsTo_length (p : Int) (xs : List SNode) (k : Nat) : (turnsTo p xs k).length = k := by simp [turnsTo]
abbrev turnV (x : SNode × Bool) : Array Value := #[nodeV x.1, .bool x.2]
theorem grown_drew (W : World) : W.grownBy W.drew none := ⟨rfl, rfl, rfl, Nat.le_refl _, fun _ _ _ => rfl⟩
theorem bar_none {w w1 w2 : World} (h : w.grownBy w1 none) (k : w1.grownBy w2 none) : w.grownBy w2 none :=
 ⟨k.os.trans h.os, k.tape.trans h.tape, k.output.trans h.output, Nat.le_trans h.size k.size, fun i hi hn => (k.block i (lL' hi h.size) hn).trans (h.block i hi hn)⟩
set_option maxRecDepth 100000 in
set_option maxHeartbeats 400000 in
theorem turns1_in (F : Fence) (n : Nat) (hf : F.fn 108) (hro : F.round = none) (hn : 1 ≤ n) (l sb pb B : Nat) (p : Int) (hp : 0 ≤ p) (A : Option Addr) (c : Nat) (xs : List SNode) (hx63 : xs.length ≤ 63) (S : Nat → Prop) (hSs : S sb) (hSp : S pb) (hSA : 0 < xs.length → ∀ a, A = some a → S a.block) (Ok : SNode → Prop) (hok : ∀ x ∈ xs, Ok x)
  (J Jx : List (SNode × Bool) → World → Prop) (hJ : AbidesFrom B J)
  (hY : ∀ pre x W, Ok x.1 → J pre W → pre.length < xs.length → YieldAt F (n - 1) Tryd.prog l (turnV x) W fun e W' => (e = .returned (.bool true) ∧ J (pre ++ [x]) W' ∧ KeepS S W W') ∨ (e = .returned (.bool false) ∧ Jx (pre ++ [x]) W'))
  (W : World) (hs : W.heap[sb]? = some (.cells #[.slice A xs.length c] 43 (0, 0))) (hpb : W.heap[pb]? = some (.cells #[.int .u64 p] 23 (0, 0))) (hr : Kd.C kNode W A xs.length xs) (hlt : ∀ k, S k → k < W.heap.size) (h0 : J [] W) :
  CallsIn F n Tryd.prog 108 #[.func (.yield l) #[] #[], .pointer (some ⟨sb, 0, none⟩), .pointer (some ⟨pb, 0, none⟩)] W fun e W' => (∃ v, e = .returned v) ∧ ((∃ ys, ys = turnsTo p xs xs.length ∧ J ys W') ∨ (∃ pre, (∃ k, k ≤ xs.length ∧ pre = turnsTo p xs k) ∧ Jx pre W')) := by
 obtain ⟨Ff, Fd, Fa, Fr⟩ := F
 obtain rfl : Fr = none := hro
 have hs0 : W.cell? ⟨sb, 0, none⟩ = some (.slice A xs.length c) := blk_cell hs 0
 have HS := aM' hs
 have HP := aM' hpb
 have HR := aM' hr
 have HL := aM' hlt
 have HJ := aM' hJ
 have HY := aM' hY
 have HOK := aM' hok
 clear hok
 clear hs hpb hr hlt hJ hY
 refine callsIn_of_wp Tryd.func108 rfl hf ?_
 simp only [Tryd.ntmps108, List.size_toArray, List.length_cons, List.length_nil, Nat.reduceAdd, Nat.reduceSub, Array.replicate_succ, Array.replicate_zero, List.push_toArray, List.append_toArray, List.nil_append, List.cons_append]
 gi_wp2
 clear hs0
 gi_loopw [8] (fun i wr => ∃ k : Nat, k ≤ xs.length ∧ i = .int .i64 k ∧ Aside0 (J (turnsTo p xs k) wr) ∧ Aside0 (KeepS S W wr)) (fun i _ => xs.length - (intOf i).toNat)
 case atStart => exact ⟨0, Nat.zero_le _, rfl, ⟨h0⟩, ⟨fun _ _ => rfl⟩⟩
 case round =>
  obtain ⟨k, hk, rfl, HJs, HK⟩ := hrel
  by_cases hlt : k < xs.length
  ·
   have b1 : decide ((k : Int) < (xs.length : Int)) = true := decide_eq_true (by omega)
   have p1 : 0 ≤ (k : Int) := by omega
   have p2 : (k : Int) < (xs.length : Int) := by omega
   have hr2 : Kd.C kNode wr A xs.length xs := nodesKeep HR.out (fun a ha => HK.out _ (hSA (by omega) a ha))
   obtain ⟨ad, e, hx0, hx1, hx2⟩ := at_TNode hr2 (k : Int) p1 p2
   rw [rd_TNode_at xs k hlt, Int.toNat_natCast] at hx0 hx1 hx2
   obtain ⟨x, hx⟩ : ∃ x, x = xs[k] := ⟨_, rfl⟩
   rw [← hx] at hx0 hx1 hx2
   have hp0 : wr.cell? ⟨pb, 0, none⟩ = some (.int .u64 p) := blk_cell ((HK.out pb hSp).trans HP.out) 0
   have hpl : pb < wr.heap.size := blk_lt ((HK.out pb hSp).trans HP.out)
   have hpn : pb ≠ wr.heap.size := Nat.ne_of_lt hpl
   have HX := aM' hx
   have hokx : Ok x := by rw [hx]; exact HOK.out _ (List.getElem_mem _)
   clear hx
   cases e
   have hg1 : wr.grownBy (wr.alloc (.cells #[.string x.f0, .int .u64 x.f1.f0, .int .u64 x.f1.f1] 46)).drew none := bar_none (World.grownBy_alloc wr _ none) (grown_drew _)
   obtain ⟨fn, tmps, assign, body, hy, hR⟩ := HY.out (turnsTo p xs k) (x, rightS p k) (wr.alloc (.cells #[.string x.f0, .int .u64 x.f1.f0, .int .u64 x.f1.f1] 46)).drew hokx (HJ.out _ wr _ none HJs.out hg1 (fun r e => by cases e)) (by rw [turnsTo_length]; exact hlt)
   have hy2 : (Instr.yield l #[.agg #[.string x.f0, .int .u64 x.f1.f0, .int .u64 x.f1.f1], .bool (Go.bits .and .u64 (p / 2 ^ k) 1 == 0)]).run Tryd.prog (wr.alloc (.cells #[.string x.f0, .int .u64 x.f1.f0, .int .u64 x.f1.f1] 46)).drew = .ok (.round l fn tmps assign body) (wr.alloc (.cells #[.string x.f0, .int .u64 x.f1.f0, .int .u64 x.f1.f1] 46)).drew := hy
   have hR2 := hR.mono (fun e W' h => (show ∃ b : Bool, e = .returned (.bool b) ∧ Aside0 ((b = true ∧ J (turnsTo p xs k ++ [(x, rightS p k)]) W' ∧ KeepS S (wr.alloc (.cells #[.string x.f0, .int .u64 x.f1.f0, .int .u64 x.f1.f1] 46)).drew W') ∨ (b = false ∧ Jx (turnsTo p xs k ++ [(x, rightS p k)]) W')) from
    h.elim (fun h => ⟨true, h.1, ⟨.inl ⟨rfl, h.2⟩⟩⟩) (fun h => ⟨false, h.1, ⟨.inr ⟨rfl, h.2⟩⟩⟩)))
   clear hy hR
   gi_wp2
   clear hg1 hr2
   gi_region_with (refine hR2.mono ?_; clear hR2 hy2 hx0 hx1 hx2 hp0 b1 p1 p2 hpn hpl; rintro e W3 ⟨b, rfl, HE⟩)
   all_goals
    have HKW := aM' (HK.out.alloc HL.out (.cells #[.string x.f0, .int .u64 x.f1.f0, .int .u64 x.f1.f1] 46))
    have HE2 := aM' (show turnsTo p xs (k + 1) = turnsTo p xs k ++ [(x, rightS p k)] by rw [turnsTo_succ p xs k hlt, HX.out])
    cases b with
    | true =>
     obtain ⟨-, hJ2, hK2⟩ | ⟨h, -⟩ := HE.out
     case inr => exact absurd h (by decide)
     have HJ2 := aM' hJ2
     have HK2 := aM' hK2
     clear hJ2 hK2
     gi_wp2
     exact ⟨⟨k + 1, hlt, rfl, ⟨by rw [HE2.out]; exact HJ2.out⟩, ⟨HKW.out.trans HK2.out⟩⟩, by simp [intOf]; omega⟩
    | false =>
     obtain ⟨h, -⟩ | ⟨-, hJ2⟩ := HE.out
     case inl => exact absurd h (by decide)
     have HJ2 := aM' hJ2
     clear hJ2
     gi_wp2
     refine bodyPost_ret (results_none rfl _ _ _) rfl ?_
     exact ⟨⟨_, rfl⟩, .inr ⟨_, ⟨k + 1, hlt, HE2.out.symm⟩, HJ2.out⟩⟩
  ·
   have b1 : decide ((k : Int) < (xs.length : Int)) = false := decide_eq_false (by omega)
   obtain rfl : k = xs.length := by omega
   gi_wp2
   go_end0
   exact ⟨⟨_, rfl⟩, .inl ⟨_, rfl, HJs.out⟩⟩
end Go.Proofs.YtfcodmdckcihmaaDoor.P
namespace Go.Proofs.YtfcodmdckcihmaaDoor.P
open Go.RowKit Go.Proofs.YtfcodmdckcihmaaDoorW.PrintWords Go.Proofs.YtfcodmdckcihmaaDoorW.PrintLast Go.Proofs.YtfcodmdckcihmaaDoorW.PrintMore
set_option linter.unusedVariables false
set_option linter.unusedSimpArgs false
set_option linter.unnecessarySimpa false
theorem all1.calls (wd : Int) (B : Nat) (x : SNode) (W : World) (hB : W.heap[B]? = some (.cells #[.int .i64 wd] 3 (0, 0))) :
  Calls Tryd.prog 103 #[nodeV x, .pointer (some ⟨B, 0, none⟩)] W fun e W' => e = .returned (.bool (!nodeOf wd x)) ∧ Below W.heap.size W W' := by
 have hc : W.cell? ⟨B, 0, none⟩ = some (.int .i64 wd) := blk_cell hB 0
 have hlt : B < W.heap.size := blk_lt hB
 have hne : B ≠ W.heap.size := Nat.ne_of_lt hlt
 go_enter Tryd.func103, Tryd.ntmps103
 go_wp2_with fail
 refine (node_Of.calls wd x.f0 x.f1.f0 x.f1.f1 (nodeOf wd x) _ (node_Of_eq wd x)).mono ?_
 rintro e w1 ⟨rfl, hb⟩
 go_wp2
 go_ret
 exact ⟨rfl, (below_alloc (Below.refl _ _) _).trans (hb.mono (by simp))⟩
set_option maxRecDepth 100000 in
set_option maxHeartbeats 1000000 in
theorem all.calls (wd : Int) (A : Option Addr) (c : Nat) (l : List SNode) (w : World) (hr : Kd.C kNode w A l.length l) :
  Calls Tryd.prog 73 #[.int .i64 wd, .slice A l.length c] w fun e w' => e = .returned (.bool (decide (1 ≤ wd) && (decide (wd ≤ 32) && l.all (nodeOf wd)))) ∧ Below w.heap.size w w' := by
 have HR := aM' hr
 clear hr
 have e0 : (!l.any fun x => !nodeOf wd x) = l.all (nodeOf wd) := by rw [List.all_eq_not_any_not]
 go_enter Tryd.func73, Tryd.ntmps73
 by_cases h1 : 1 ≤ wd
 ·
  have b1 : decide (1 ≤ wd) = true := decide_eq_true h1
  by_cases h2 : wd ≤ 32
  ·
   have b2 : decide (wd ≤ 32) = true := decide_eq_true h2
   go_wp2_with fail
   have hcb : (w.alloc (.cells #[.int .i64 wd] 3)).heap[w.heap.size]? = some (.cells #[.int .i64 wd] 3 (0, 0)) := blk_new w _
   have hB0 : Below w.heap.size w (w.alloc (.cells #[.int .i64 wd] 3)) := below_alloc (Below.refl _ _) _
   refine (anyNode.calls 103 _ (fun x => !nodeOf wd x) A c l _ (Kd.C_below HR.out hB0) (fun _ _ => enters_of Tryd.func103 (by kernel_rfl) rfl _ _) (fun W x hW => all1.calls wd w.heap.size x W (blk_below hcb hW))).mono ?_
   rintro e w1 ⟨rfl, hb⟩
   have HB1 := aM' (hB0.trans (hb.mono hB0.size))
   clear hb hcb hB0
   go_wp2_with fail
   go_ret
   exact ⟨by simp only [b1, b2, Bool.true_and]; rw [← e0]; rfl, HB1.out⟩
  ·
   have b2 : decide (wd ≤ 32) = false := decide_eq_false h2
   go_wp2_with fail
   go_ret
   exact ⟨by simp [b2], below_alloc (Below.refl _ _) _⟩
 ·
  have b1 : decide (1 ≤ wd) = false := decide_eq_false h1
  go_wp2_with fail
  go_ret
  exact ⟨by simp [b1], below_alloc (Below.refl _ _) _⟩
end Go.Proofs.YtfcodmdckcihmaaDoor.P
namespace Go.Proofs.YtfcodmdckcihmaaDoor.P
open Go.RowKit Go.Proofs.YtfcodmdckcihmaaDoorW.PrintWords Go.Proofs.YtfcodmdckcihmaaDoorW.PrintLast Go.Proofs.YtfcodmdckcihmaaDoorW.PrintMore
set_option linter.unusedVariables false
set_option linter.unusedSimpArgs false
set_option linter.unnecessarySimpa false
attribute [local go_sem] Oper.semAt_some
theorem turns.calls (p : Int) (A : Option Addr) (m c : Nat) (w : World) : Calls Tryd.prog 81 #[.int .u64 p, .slice A m c] w fun e w' => e = .returned (.func (.func 108) #[] #[.pointer (some ⟨w.heap.size + 1, 0, none⟩), .pointer (some ⟨w.heap.size, 0, none⟩)]) ∧ w' = (w.alloc (.cells #[.int .u64 p] 23)).alloc (.cells #[.slice A m c] 43) := by
 go_enter Tryd.func81, Tryd.ntmps81
 go_wp2
 go_ret
 exact ⟨rfl, rfl⟩
def stepI (w : Int) (n : SNode) (x : SNode × Bool) : ByteArray × Int × Int × Int := if x.2 then joinI w n x.1 else joinI w x.1 n
abbrev nodeJ (j : ByteArray × Int × Int × Int) : SNode := ⟨j.1, ⟨j.2.1, j.2.2.1⟩⟩
def climbL (w : Int) : SNode → List (SNode × Bool) → ByteArray × Int × Int × Int
 | n, [] => (n.f0, n.f1.f0, n.f1.f1, 0)
 | n, x :: xs => if (stepI w n x).2.2.2 = 0 then climbL w (nodeJ (stepI w n x)) xs else (⟨#[]⟩, 0, 0, (stepI w n x).2.2.2)
def climbI (w : Int) (n : SNode) (p : Int) (l : List SNode) : ByteArray × Int × Int × Int :=
 if nodeOf w n = true ∧ l.all (nodeOf w) = true then (if 63 < l.length then (⟨#[]⟩, 0, 0, 2) else climbL w n (turnsTo p l l.length)) else (⟨#[]⟩, 0, 0, 70)
def upTo (w : Int) : SNode → List (SNode × Bool) → Option SNode
 | n, [] => some n
 | n, x :: xs => if (stepI w n x).2.2.2 = 0 then upTo w (nodeJ (stepI w n x)) xs else none
theorem climbL_up (w : Int) (rest : List (SNode × Bool)) : ∀ (pre : List (SNode × Bool)) (n st : SNode), upTo w n pre = some st → climbL w n (pre ++ rest) = climbL w st rest
 | [], n, st, h => by cases h; rfl
 | x :: xs, n, st, h => by
  unfold upTo at h
  split at h
  ·
   rename_i h0
   show climbL w n (x :: (xs ++ rest)) = _
   unfold climbL
   rw [if_pos h0]
   have := climbL_up w rest xs _ st h
   rw [this]
   cases rest <;> rfl
  ·
   cases h
theorem upTo_snoc (w : Int) (x : SNode × Bool) : ∀ (pre : List (SNode × Bool)) (n st : SNode), upTo w n pre = some st → (stepI w st x).2.2.2 = 0 → upTo w n (pre ++ [x]) = some (nodeJ (stepI w st x))
 | [], n, st, h, h0 => by cases h; show upTo w n [x] = _; unfold upTo; rw [if_pos h0]; rfl
 | y :: ys, n, st, h, h0 => by
  unfold upTo at h
  split at h
  ·
   rename_i h1
   show upTo w n (y :: (ys ++ [x])) = _
   unfold upTo
   rw [if_pos h1]
   exact upTo_snoc w x ys _ st h h0
  ·
   cases h
theorem turnsTo_pre (p : Int) (l : List SNode) (k : Nat) : ∀ d, ∃ rest, turnsTo p l (k + d) = turnsTo p l k ++ rest
 | 0 => ⟨[], by simp⟩
 | d + 1 => by
  obtain ⟨r, hr⟩ := turnsTo_pre p l k d
  refine ⟨r ++ [(l.getD (k + d) ⟨ByteArray.empty, ⟨0, 0⟩⟩, rightS p (k + d))], ?_⟩
  rw [← List.append_assoc, ← hr]
  simp [turnsTo, ← Nat.add_assoc, List.range_succ]
theorem addI128_ok (a b c d : Int) (ha : 0 ≤ a) (hb : 0 ≤ b) (hc : 0 ≤ c) (hd : 0 ≤ d) : 0 ≤ (addI128 a b c d).1 ∧ (addI128 a b c d).1 < 18446744073709551616 ∧ 0 ≤ (addI128 a b c d).2.1 ∧ (addI128 a b c d).2.1 < 18446744073709551616 := by
 unfold addI128
 split
 ·
  refine ⟨?_, ?_, ?_, ?_⟩ <;> dsimp only <;> omega
 ·
  refine ⟨?_, ?_, ?_, ?_⟩ <;> dsimp only <;> omega
theorem joinI_ok (w : Int) (l r : SNode) (ul : OkU l.f1) (ur : OkU r.f1) : OkU (nodeJ (joinI w l r)).f1 := by
 have h := addI128_ok l.f1.f0 l.f1.f1 r.f1.f0 r.f1.f1 ul.h0.1 ul.h1.1 ur.h0.1 ur.h1.1
 unfold joinI
 split
 ·
  split
  ·
   exact ⟨⟨h.1, h.2.1⟩, ⟨h.2.2.1, h.2.2.2⟩⟩
  ·
   exact ⟨⟨by simp, by simp⟩, ⟨by simp, by simp⟩⟩
 ·
  exact ⟨⟨by simp, by simp⟩, ⟨by simp, by simp⟩⟩
abbrev nodeA (n : SNode) : Array Value := #[.string n.f0, .int .u64 n.f1.f0, .int .u64 n.f1.f1]
structure Clim (w : World) (wd : Int) (st r2 : SNode) (r3 : Int) (W : World) : Prop where
 h0 : W.heap[w.heap.size]? = some (.cells #[.int .i64 wd] 3 (0, 0))
 h1 : W.heap[w.heap.size + 1]? = some (.cells (nodeA st) 46 (0, 0))
 h2 : W.heap[w.heap.size + 1 + 1]? = some (.cells (nodeA r2) 46 (0, 0))
 h3 : W.heap[w.heap.size + 1 + 1 + 1]? = some (.cells #[.int .i64 r3] 26 (0, 0))
 hB : Below w.heap.size w W
theorem Clim.lt {w W : World} {wd r3 : Int} {st r2 : SNode} (h : Clim w wd st r2 r3 W) : w.heap.size + 1 + 1 + 1 < W.heap.size := blk_lt h.h3
theorem Clim.below {w W W' : World} {wd r3 : Int} {st r2 : SNode} (h : Clim w wd st r2 r3 W) (hb : Below W.heap.size W W') : Clim w wd st r2 r3 W' :=
 ⟨blk_below h.h0 hb, blk_below h.h1 hb, blk_below h.h2 hb, blk_below h.h3 hb, h.hB.trans (hb.mono h.hB.size)⟩
theorem Clim.own {w X Y : World} {wd r3 : Int} {st r2 : SNode} {B : Nat} {row : Option Nat} (h : Clim w wd st r2 r3 X) (hg : X.grownBy Y row) (hlt : w.heap.size + 1 + 1 + 1 < B) (hr : ∀ r, row = some r → B ≤ r) : Clim w wd st r2 r3 Y := by
 have hl := h.lt
 have hk : ∀ k, k ≤ w.heap.size + 1 + 1 + 1 → Y.heap[k]? = X.heap[k]? := fun k hk => hg.block k (by omega) (fun e => by have := hr k e.symm; omega)
 exact ⟨(hk _ (by omega)).trans h.h0, (hk _ (by omega)).trans h.h1, (hk _ (by omega)).trans h.h2, (hk _ (by omega)).trans h.h3, ⟨hg.os.trans h.hB.os, hg.tape.trans h.hB.tape, hg.output.trans h.hB.output, Nat.le_trans h.hB.size hg.size, fun i hi => (hk i (by omega)).trans (h.hB.block i hi)⟩⟩
theorem climb_results (tmps : Array Value) (W : World) (g2 g3 : Nat) (x y z e : Value) (h8 : tmps.getD 8 undef = .pointer (some ⟨g2, 0, none⟩)) (h9 : tmps.getD 9 undef = .pointer (some ⟨g3, 0, none⟩)) (hg2 : W.heap[g2]? = some (.cells #[x, y, z] 46 (0, 0))) (hg3 : W.heap[g3]? = some (.cells #[e] 26 (0, 0))) :
  (results Tryd.f40 tmps).run Tryd.prog W = .ok (.tuple #[.agg #[x, y, z], e]) W := by
 have h8' : tmps[8]?.getD undef = .pointer (some ⟨g2, 0, none⟩) := by simpa using h8
 have h9' : tmps[9]?.getD undef = .pointer (some ⟨g3, 0, none⟩) := by simpa using h9
 have hr : Tryd.f40.results = #[.cell 8 46, .cell 9 26] := rfl
 have hc : W.cell? ⟨g3, 0, none⟩ = some e := blk_cell hg3 0
 have h1 := run_loadVar_row W g2 46 46 #[x, y, z] (0, 0) _ hg2 Tryd.underlying46 rfl (by kernel_rfl)
 have hu := Tryd.underlying26
 have h2 : (loadVar 26 ⟨g3, 0, none⟩).run Tryd.prog W = .ok e W := by
  go_simp
 simp [results, hr, h8', h9', asAddr, h1, h2]
theorem Clim.put {w W : World} {wd r3 : Int} {st r2 : SNode} (h : Clim w wd st r2 r3 W) (x : SNode) (e : Int) :
  Clim w wd st x e ((((W.setCell ⟨w.heap.size + 1 + 1, 0, none⟩ (.string x.f0)).setCell ⟨w.heap.size + 1 + 1, 1, none⟩ (.int .u64 x.f1.f0)).setCell ⟨w.heap.size + 1 + 1, 2, none⟩ (.int .u64 x.f1.f1)).setCell ⟨w.heap.size + 1 + 1 + 1, 0, none⟩ (.int .i64 e)) := by
 have a1 := blk_put (cs' := nodeA ⟨x.f0, r2.f1⟩) h.h2 0 (.string x.f0) rfl
 have a2 := blk_put (cs' := nodeA ⟨x.f0, ⟨x.f1.f0, r2.f1.f1⟩⟩) a1 1 (.int .u64 x.f1.f0) rfl
 have a3 := blk_put (cs' := nodeA x) a2 2 (.int .u64 x.f1.f1) rfl
 exact ⟨blk_far (blk_far (blk_far (blk_far h.h0 (by (try dsimp only); omega) _) (by (try dsimp only); omega) _) (by (try dsimp only); omega) _) (by (try dsimp only); omega) _, blk_far (blk_far (blk_far (blk_far h.h1 (by (try dsimp only); omega) _) (by (try dsimp only); omega) _) (by (try dsimp only); omega) _) (by (try dsimp only); omega) _,
  blk_far a3 (by (try dsimp only); omega) _, blk_put (blk_far (blk_far (blk_far h.h3 (by (try dsimp only); omega) _) (by (try dsimp only); omega) _) (by (try dsimp only); omega) _) 0 (.int .i64 e) rfl,
  below_set (below_set (below_set (below_set h.hB (by (try dsimp only); omega)) (by (try dsimp only); omega)) (by (try dsimp only); omega)) (by (try dsimp only); omega)⟩
theorem Clim.step {w W : World} {wd r3 : Int} {st r2 : SNode} (h : Clim w wd st r2 r3 W) (x : SNode) :
  Clim w wd x r2 r3 (((W.setCell ⟨w.heap.size + 1, 0, none⟩ (.string x.f0)).setCell ⟨w.heap.size + 1, 1, none⟩ (.int .u64 x.f1.f0)).setCell ⟨w.heap.size + 1, 2, none⟩ (.int .u64 x.f1.f1)) := by
 have a1 := blk_put (cs' := nodeA ⟨x.f0, st.f1⟩) h.h1 0 (.string x.f0) rfl
 have a2 := blk_put (cs' := nodeA ⟨x.f0, ⟨x.f1.f0, st.f1.f1⟩⟩) a1 1 (.int .u64 x.f1.f0) rfl
 have a3 := blk_put (cs' := nodeA x) a2 2 (.int .u64 x.f1.f1) rfl
 exact ⟨blk_far (blk_far (blk_far h.h0 (by (try dsimp only); omega) _) (by (try dsimp only); omega) _) (by (try dsimp only); omega) _, a3, blk_far (blk_far (blk_far h.h2 (by (try dsimp only); omega) _) (by (try dsimp only); omega) _) (by (try dsimp only); omega) _, blk_far (blk_far (blk_far h.h3 (by (try dsimp only); omega) _) (by (try dsimp only); omega) _) (by (try dsimp only); omega) _,
  below_set (below_set (below_set h.hB (by (try dsimp only); omega)) (by (try dsimp only); omega)) (by (try dsimp only); omega)⟩
theorem climb_ret {w W : World} {wd r3 : Int} {st r2 : SNode} {tmps : Array Value} {R : Ending → World → Prop} (h : Clim w wd st r2 r3 W) (h8 : tmps.getD 8 undef = .pointer (some ⟨w.heap.size + 1 + 1, 0, none⟩)) (h9 : tmps.getD 9 undef = .pointer (some ⟨w.heap.size + 1 + 1 + 1, 0, none⟩))
  (hR : R (.returned (.tuple #[nodeV r2, .int .i64 r3])) W) : bodyPostM Fence.wide 3 Tryd.prog Tryd.f40 R .ret { tmps := tmps, defers := [] } W :=
 ⟨_, climb_results _ _ _ _ _ _ _ _ h8 h9 h.h2 h.h3, hR⟩
theorem blk_res {W : World} {B2 B3 D : Nat} {o : Obj} (h : W.heap[D]? = some o) (h2 : D ≠ B2) (h3 : D ≠ B3) (a b c d : Value) :
  ((((W.setCell ⟨B2, 0, none⟩ a).setCell ⟨B2, 1, none⟩ b).setCell ⟨B2, 2, none⟩ c).setCell ⟨B3, 0, none⟩ d).heap[D]? = some o := by
 rw [Below.heap_setCell _ _ _ _ h3, Below.heap_setCell _ _ _ _ h2, Below.heap_setCell _ _ _ _ h2, Below.heap_setCell _ _ _ _ h2]
 exact h
theorem climb_retD {w W : World} {wd r3 : Int} {st r2 : SNode} {tmps : Array Value} {R : Ending → World → Prop} {D : Nat} (h : Clim w wd st r2 r3 W) (hD : w.heap.size + 1 + 1 + 1 < D) (hdf : W.heap[D]? = some (.deferred (some []))) (h8 : tmps.getD 8 undef = .pointer (some ⟨w.heap.size + 1 + 1, 0, none⟩)) (h9 : tmps.getD 9 undef = .pointer (some ⟨w.heap.size + 1 + 1 + 1, 0, none⟩))
  (hR : ∀ W', Below w.heap.size w W' → R (.returned (.tuple #[nodeV r2, .int .i64 r3])) W') : bodyPostM Fence.wide 3 Tryd.prog Tryd.f40 R .ret { tmps := tmps, defers := [{ target := .collected D, args := #[] }] } W := by
 refine ⟨by simp, .inl ⟨_, _, rfl, run_takeDeferred hdf, ?_⟩⟩
 refine ⟨_, climb_results _ _ _ _ _ _ _ _ h8 h9 ((World.putObj_heap_other (by omega)).trans h.h2) ((World.putObj_heap_other (by omega)).trans h.h3), hR _ ?_⟩
 exact ⟨h.hB.os, h.hB.tape, h.hB.output, by simpa using h.hB.size, fun i hi => (World.putObj_heap_other (by omega)).trans (h.hB.block i hi)⟩
theorem put3 {W : World} {g : Nat} {z : SNode} (h : W.heap[g]? = some (.cells (nodeA z) 46 (0, 0))) (x : SNode) :
  (((W.setCell ⟨g, 0, none⟩ (.string x.f0)).setCell ⟨g, 1, none⟩ (.int .u64 x.f1.f0)).setCell ⟨g, 2, none⟩ (.int .u64 x.f1.f1)).heap[g]? = some (.cells (nodeA x) 46 (0, 0)) := by
 have a1 := blk_put (cs' := nodeA ⟨x.f0, z.f1⟩) h 0 (.string x.f0) rfl
 have a2 := blk_put (cs' := nodeA ⟨x.f0, ⟨x.f1.f0, z.f1.f1⟩⟩) a1 1 (.int .u64 x.f1.f0) rfl
 exact blk_put (cs' := nodeA x) a2 2 (.int .u64 x.f1.f1) rfl
theorem far3 {W : World} {g k : Nat} {o : Obj} (h : W.heap[k]? = some o) (hn : k ≠ g) (a b c : Value) : (((W.setCell ⟨g, 0, none⟩ a).setCell ⟨g, 1, none⟩ b).setCell ⟨g, 2, none⟩ c).heap[k]? = some o := by
 rw [Below.heap_setCell _ _ _ _ hn, Below.heap_setCell _ _ _ _ hn, Below.heap_setCell _ _ _ _ hn]
 exact h
theorem below3 {W V : World} (h : Below W.heap.size W V) {g : Nat} (hg : W.heap.size ≤ g) (a b c : Value) : Below W.heap.size W (((V.setCell ⟨g, 0, none⟩ a).setCell ⟨g, 1, none⟩ b).setCell ⟨g, 2, none⟩ c) :=
 below_set (below_set (below_set h hg) hg) hg
structure Two (W : World) (b12 b13 : Nat) (x s : SNode) (W' : World) : Prop where
 ne : b12 ≠ b13
 l12 : W.heap.size ≤ b12
 l13 : W.heap.size ≤ b13
 hB : Below W.heap.size W W'
 h12 : W'.heap[b12]? = some (.cells (nodeA x) 46 (0, 0))
 h13 : W'.heap[b13]? = some (.cells (nodeA s) 46 (0, 0))
theorem Two.put {W V : World} {b12 b13 : Nat} {x s : SNode} (h : Two W b12 b13 x s V) (x' s' : SNode) :
  Two W b12 b13 x' s' ((((((V.setCell ⟨b12, 0, none⟩ (.string x'.f0)).setCell ⟨b12, 1, none⟩ (.int .u64 x'.f1.f0)).setCell ⟨b12, 2, none⟩ (.int .u64 x'.f1.f1)).setCell ⟨b13, 0, none⟩ (.string s'.f0)).setCell ⟨b13, 1, none⟩ (.int .u64 s'.f1.f0)).setCell ⟨b13, 2, none⟩ (.int .u64 s'.f1.f1)) :=
 ⟨h.ne, h.l12, h.l13, below3 (below3 h.hB h.l12 _ _ _) h.l13 _ _ _, far3 (put3 h.h12 x') h.ne _ _ _, put3 (far3 h.h13 (Ne.symm h.ne) _ _ _) s'⟩
theorem climb_twoA (W : World) (x s : SNode) : Two W W.heap.size (W.heap.size + 1) x s ((W.alloc (.cells #[.string x.f0, .int .u64 x.f1.f0, .int .u64 x.f1.f1] 46)).alloc (.cells #[.string s.f0, .int .u64 s.f1.f0, .int .u64 s.f1.f1] 46)).drew := by
 have h0 := blk_drew (blk_alloc (blk_new W (.cells (nodeA x) 46)) (.cells (nodeA s) 46))
 have h1 := blk_new (W.alloc (.cells (nodeA x) 46)) (.cells (nodeA s) 46)
 rw [World.size_alloc] at h1
 exact ⟨by omega, by omega, by omega, below_drew (below_alloc (below_alloc (Below.refl _ _) _) _), h0, blk_drew h1⟩
theorem climb_twoB (W : World) (x s : SNode) : Two W (W.heap.size + 1) W.heap.size x s ((W.alloc (.cells #[.string s.f0, .int .u64 s.f1.f0, .int .u64 s.f1.f1] 46)).alloc (.cells #[.string x.f0, .int .u64 x.f1.f0, .int .u64 x.f1.f1] 46)).drew := by
 have h := climb_twoA W s x
 exact ⟨by omega, by omega, by omega, h.hB, h.h13, h.h12⟩
abbrev OkX := { x : SNode × Bool // OkU x.1.f1 }
def climbS (w2 : World) (A : Option Addr) (l : List SNode) (k : Nat) : Prop := k = w2.heap.size + 1 ∨ k = w2.heap.size ∨ (0 < l.length ∧ ∃ a, A = some a ∧ k = a.block)
theorem nodes_block {w : World} {a : Addr} {l : List SNode} (h : Kd.C kNode w (some a) l.length l) (h0 : 0 < l.length) : a.block < w.heap.size := by
 obtain ⟨ad, e, hx, -, -⟩ := at_TNode h 0 (by omega) (by omega)
 cases e
 have := bL' _ _ hx
 unfold Addr.add at this
 split at this <;> exact this
set_option maxRecDepth 100000 in
set_option maxHeartbeats 2000000 in
theorem climb.calls (wd : Int) (n : SNode) (p : Int) (A : Option Addr) (c : Nat) (l : List SNode) (w : World) (hK : Laid w) (hr : Kd.C kNode w A l.length l) (hp : 0 ≤ p) (un : OkU n.f1) (ul : ∀ x ∈ l, OkU x.f1) :
  Calls Tryd.prog 40 #[.int .i64 wd, nodeV n, .int .u64 p, .slice A l.length c] w fun e w' => e = .returned (.tuple #[nodeV (nodeJ (climbI wd n p l)), .int .i64 (climbI wd n p l).2.2.2]) ∧ Below w.heap.size w w' := by
 have HR := aM' hr
 have HK := aM' hK
 have UN := aM' un
 have UL := aM' ul
 clear hr hK un ul
 refine (callsIn_wide (n := 3)).1 ?_
 refine callsIn_of_wp_marks Tryd.func40 rfl trivial ?_ rfl
 simp only [Tryd.ntmps40, List.size_toArray, List.length_cons, List.length_nil, Nat.reduceAdd, Nat.reduceSub, Array.replicate_succ, Array.replicate_zero, List.push_toArray, List.append_toArray, List.nil_append, List.cons_append]
 gi_wp2_with fail
 refine ⟨trivial, ?_⟩
 refine (callsIn_wide.2 (node_Of.calls wd n.f0 n.f1.f0 n.f1.f1 (nodeOf wd n) _ (node_Of_eq wd n))).mono ?_
 rintro e w1 ⟨rfl, hb⟩
 have hB0 : Below w.heap.size w w1 := (below_alloc (below_alloc (below_alloc (below_alloc (Below.refl _ _) _) _) _) _).trans (hb.mono (by simp; omega))
 have hw0 : w1.heap[w.heap.size]? = some (.cells #[.int .i64 wd] 3 (0, 0)) := blk_below (blk_alloc (blk_alloc (blk_alloc (blk_new w _) _) _) _) hb
 have hw1 : w1.heap[w.heap.size + 1]? = some (.cells #[.string n.f0, .int .u64 n.f1.f0, .int .u64 n.f1.f1] 46 (0, 0)) := by
  refine blk_below (blk_alloc (blk_alloc ?_ _) _) hb
  have := blk_new (w.alloc (.cells #[.int .i64 wd] 3)) (.cells #[.string n.f0, .int .u64 n.f1.f0, .int .u64 n.f1.f1] 46)
  rwa [World.size_alloc] at this
 have hw2 : w1.heap[w.heap.size + 1 + 1]? = some (.cells #[.string ⟨#[]⟩, .int .u64 0, .int .u64 0] 46 (0, 0)) := by
  refine blk_below (blk_alloc ?_ _) hb
  have := blk_new ((w.alloc (.cells #[.int .i64 wd] 3)).alloc (.cells #[.string n.f0, .int .u64 n.f1.f0, .int .u64 n.f1.f1] 46)) (.cells #[.string ⟨#[]⟩, .int .u64 0, .int .u64 0] 46)
  rwa [World.size_alloc, World.size_alloc] at this
 have hw3 : w1.heap[w.heap.size + 1 + 1 + 1]? = some (.cells #[.int .i64 0] 26 (0, 0)) := by
  refine blk_below ?_ hb
  have := blk_new (((w.alloc (.cells #[.int .i64 wd] 3)).alloc (.cells #[.string n.f0, .int .u64 n.f1.f0, .int .u64 n.f1.f1] 46)).alloc (.cells #[.string ⟨#[]⟩, .int .u64 0, .int .u64 0] 46)) (.cells #[.int .i64 0] 26)
  rwa [World.size_alloc, World.size_alloc, World.size_alloc] at this
 have hC : Clim w wd n ⟨⟨#[]⟩, ⟨0, 0⟩⟩ 0 w1 := ⟨hw0, hw1, hw2, hw3, hB0⟩
 have HC := aM' hC
 have c0 : w1.cell? ⟨w.heap.size, 0, none⟩ = some (.int .i64 wd) := blk_cell hw0 0
 have cr0 : w1.cell? ⟨w.heap.size + 1 + 1, 0, none⟩ = some (.string ⟨#[]⟩) := blk_cell hw2 0
 have cr1 : w1.cell? ⟨w.heap.size + 1 + 1, 1, none⟩ = some (.int .u64 0) := blk_cell hw2 1
 have cr2 : w1.cell? ⟨w.heap.size + 1 + 1, 2, none⟩ = some (.int .u64 0) := blk_cell hw2 2
 have fr : ∀ i, w1.frozen? ⟨w.heap.size + 1 + 1, i, none⟩ = false := fun i => blk_frozen hw2 i
 have ce : w1.cell? ⟨w.heap.size + 1 + 1 + 1, 0, none⟩ = some (.int .i64 0) := blk_cell hw3 0
 have fe : ∀ i, w1.frozen? ⟨w.heap.size + 1 + 1 + 1, i, none⟩ = false := fun i => blk_frozen hw3 i
 clear hb hB0 hw0 hw1 hw2 hw3 hC
 cases hof : nodeOf wd n with
 | false =>
  have HI := aM' (show climbI wd n p l = (⟨#[]⟩, 0, 0, 70) by unfold climbI; rw [if_neg (by rw [hof]; simp)])
  gi_wp2_with (refine ⟨trivial, ?_⟩)
  rw [HI.out]
  exact climb_ret (HC.out.put ⟨⟨#[]⟩, ⟨0, 0⟩⟩ 70) rfl rfl ⟨rfl, (HC.out.put ⟨⟨#[]⟩, ⟨0, 0⟩⟩ 70).hB⟩
 | true =>
  gi_wp2_with fail
  refine ⟨trivial, ?_⟩
  refine (callsIn_wide.2 (all.calls wd A c l _ (Kd.C_below HR.out HC.out.hB))).mono ?_
  rintro e w2 ⟨rfl, hb⟩
  have h1 : (decide (1 ≤ wd) && (decide (wd ≤ 32) && l.all (nodeOf wd))) = l.all (nodeOf wd) := by
   obtain ⟨h1, h2, _⟩ := nodeOf_w hof
   simp [h1, h2]
  rw [h1]
  have hC2 := HC.out.below hb
  clear HC c0 cr0 cr1 cr2 fr ce fe h1 hb
  have HC := aM' hC2
  have cr0 : w2.cell? ⟨w.heap.size + 1 + 1, 0, none⟩ = some (.string ⟨#[]⟩) := blk_cell hC2.h2 0
  have cr1 : w2.cell? ⟨w.heap.size + 1 + 1, 1, none⟩ = some (.int .u64 0) := blk_cell hC2.h2 1
  have cr2 : w2.cell? ⟨w.heap.size + 1 + 1, 2, none⟩ = some (.int .u64 0) := blk_cell hC2.h2 2
  have fr : ∀ i, w2.frozen? ⟨w.heap.size + 1 + 1, i, none⟩ = false := fun i => blk_frozen hC2.h2 i
  have ce : w2.cell? ⟨w.heap.size + 1 + 1 + 1, 0, none⟩ = some (.int .i64 0) := blk_cell hC2.h3 0
  have fe : ∀ i, w2.frozen? ⟨w.heap.size + 1 + 1 + 1, i, none⟩ = false := fun i => blk_frozen hC2.h3 i
  clear hC2
  cases hal : l.all (nodeOf wd) with
  | false =>
   have HI := aM' (show climbI wd n p l = (⟨#[]⟩, 0, 0, 70) by unfold climbI; rw [if_neg (by rw [hal]; simp)])
   gi_wp2_with (refine ⟨trivial, ?_⟩)
   rw [HI.out]
   exact climb_ret (HC.out.put ⟨⟨#[]⟩, ⟨0, 0⟩⟩ 70) rfl rfl ⟨rfl, (HC.out.put ⟨⟨#[]⟩, ⟨0, 0⟩⟩ 70).hB⟩
  | true =>
   by_cases h63 : 63 < l.length
   ·
    have b1 : decide (63 < (l.length : Int)) = true := decide_eq_true (by omega)
    have HI := aM' (show climbI wd n p l = (⟨#[]⟩, 0, 0, 2) by unfold climbI; rw [if_pos ⟨hof, hal⟩, if_pos h63])
    gi_wp2_with (refine ⟨trivial, ?_⟩)
    rw [HI.out]
    exact climb_ret (HC.out.put ⟨⟨#[]⟩, ⟨0, 0⟩⟩ 2) rfl rfl ⟨rfl, (HC.out.put ⟨⟨#[]⟩, ⟨0, 0⟩⟩ 2).hB⟩
   ·
    have b1 : decide (63 < (l.length : Int)) = false := decide_eq_false (by omega)
    have HI := aM' (show climbI wd n p l = climbL wd n (turnsTo p l l.length) by unfold climbI; rw [if_pos ⟨hof, hal⟩, if_neg h63])
    gi_wp2_with fail
    refine ⟨trivial, ?_⟩
    refine (callsIn_wide.2 (turns.calls p A l.length c w2)).mono ?_
    rintro e w3 ⟨rfl, hw3⟩
    clear cr0 cr1 cr2 fr ce fe b1
    have hP : w3.heap[w2.heap.size]? = some (.cells #[.int .u64 p] 23 (0, 0)) := by rw [hw3]; exact blk_alloc (blk_new w2 _) _
    have hS : w3.heap[w2.heap.size + 1]? = some (.cells #[.slice A l.length c] 43 (0, 0)) := by
     rw [hw3]
     have := blk_new (w2.alloc (.cells #[.int .u64 p] 23)) (.cells #[.slice A l.length c] 43)
     rwa [World.size_alloc] at this
    have hC3 : Clim w wd n ⟨⟨#[]⟩, ⟨0, 0⟩⟩ 0 w3 := by rw [hw3]; exact HC.out.below (below_alloc (below_alloc (Below.refl _ _) _) _)
    have hz3 : w3.heap.size = w2.heap.size + 2 := by rw [hw3]; simp
    have hlt2 := HC.out.lt
    have HP := aM' hP
    have HS := aM' hS
    have HC3 := aM' hC3
    have HZ := aM' hz3
    have HL := aM' hlt2
    have HH := aM' h63
    clear hw3 hP hS hC3 hz3 hlt2 HC h63
    have HLT : ∀ k, climbS w2 A l k → k < w3.heap.size := by
     rintro k (rfl | rfl | ⟨h0, a, rfl, rfl⟩)
     ·
      rw [HZ.out]; omega
     ·
      rw [HZ.out]; omega
     ·
      exact lL' (nodes_block HR.out h0) HC3.out.hB.size
    have HFAR : ∀ k, climbS w2 A l k → k ≠ w.heap.size + 1 := by
     rintro k (rfl | rfl | ⟨h0, a, rfl, rfl⟩)
     ·
      have := HL.out; omega
     ·
      have := HL.out; omega
     ·
      have := nodes_block HR.out h0; omega
    have HLT := aM' HLT
    have HFAR := aM' HFAR
    gi_wp2_with fail
    refine wpIn_rangeFunc_ownH (α := OkX) (n := 3) rfl (by omega) (gf := 108) (lb := #[.pointer (some ⟨w2.heap.size + 1, 0, none⟩), .pointer (some ⟨w2.heap.size, 0, none⟩)]) rfl trivial (enters_of Tryd.func108 (by kernel_rfl) rfl) (encs := fun x => turnV x.1) (Kp := KeepS (climbS w2 A l))
     (S := fun xs => xs.map Subtype.val = turnsTo p l l.length) (Sp := fun pre => ∃ k, k ≤ l.length ∧ pre.map Subtype.val = turnsTo p l k) (N := l.length) (w0 := w3) ?hseq (fun h k => KeepS.trans h k) ?hKb (Below.refl _ _) (fun _ => rfl)
     (fun pre W => ∃ st, upTo wd n (pre.map Subtype.val) = some st ∧ OkU st.f1 ∧ Clim w wd st ⟨⟨#[]⟩, ⟨0, 0⟩⟩ 0 W ∧ w3.heap.size ≤ W.heap.size)
     (fun c pre W => c = .ret ∧ ∃ pre0 x st st', pre.map Subtype.val = pre0 ++ [x] ∧ upTo wd n pre0 = some st ∧ (stepI wd st x).2.2.2 ≠ 0 ∧ Clim w wd st' ⟨⟨#[]⟩, ⟨0, 0⟩⟩ (stepI wd st x).2.2.2 W)
     ?hI ?hIx ⟨n, rfl, UN.out, HC3.out, Nat.le_refl _⟩
     (fun x a' W => ∃ bx, w3.heap.size ≤ bx ∧ W.heap[bx]? = some (.cells (nodeA x.1.1) 46 (0, 0)) ∧ a' = ({ tmps := #[.int .i64 wd, nodeV n, .int .u64 p, .slice A l.length c, .pointer (some ⟨w.heap.size, 0, none⟩), .pointer (some ⟨w.heap.size + 1, 0, none⟩), undef, undef, .pointer (some ⟨w.heap.size + 1 + 1, 0, none⟩), .pointer (some ⟨w.heap.size + 1 + 1 + 1, 0, none⟩), .pointer (some ⟨bx, 0, none⟩), .bool x.1.2, undef, undef, undef, undef, .bool false, .int .i64 wd, .agg #[.string n.f0, .int .u64 n.f1.f0, .int .u64 n.f1.f1], .bool true, .bool false, .bool false, .int .i64 wd, .slice A l.length c, .bool true, .bool false, .bool false, undef, .bool false, .slice A l.length c, .int .i64 (l.length : Int), .bool false, undef, .int .u64 p, .slice A l.length c, .func (.func 108) #[] #[.pointer (some ⟨w2.heap.size + 1, 0, none⟩), .pointer (some ⟨w2.heap.size, 0, none⟩)], nodeV x.1.1, .bool x.1.2, undef, undef, undef, undef, undef, undef, undef, undef, undef, undef, undef, undef, undef, undef, undef, undef, undef, undef], defers := [] } : Act)) ?hAx ?assign ?body ?done ?stop
    case hKb =>
     intro W l2 o o' hl2 ho hc hw k hk
     have := HLT.out k hk
     exact World.putObj_heap_other (by omega)
    case hI =>
     rintro s X Y row ⟨st, h1, h2, h3, h4⟩ hg hr
     exact ⟨st, h1, h2, h3.own hg (by rw [HZ.out]; have := HL.out; omega) (fun r e => (hr r e).1), Nat.le_trans h4 hg.size⟩
    case hIx =>
     rintro c2 s X Y row ⟨rfl, pre0, x, st, st', h1, h2, h3, h4⟩ hg hr
     exact ⟨rfl, pre0, x, st, st', h1, h2, h3, h4.own hg (by rw [HZ.out]; have := HL.out; omega) (fun r e => (hr r e).1)⟩
    case hAx =>
     rintro x a' s X Y row ⟨bx, h1, h2, h3⟩ hg hr
     refine ⟨bx, h1, (hg.block bx (blk_lt h2) (fun e => ?_)).trans h2, h3⟩
     obtain ⟨-, o, ho, hc⟩ := hr bx e.symm
     rw [h2] at ho; cases ho; cases hc
    case hseq =>
     intro l2 J Jx W hW hJ hJx hY h0
     refine (turns1_in Fence.wide 2 trivial rfl (by omega) l2 (w2.heap.size + 1) w2.heap.size W.heap.size p hp A c l (by have := HH.out; omega) (climbS w2 A l) (.inl rfl) (.inr (.inl rfl)) (fun h0 a ha => .inr (.inr ⟨h0, a, ha, rfl⟩)) (fun x => OkU x.f1) UL.out
      (fun pre W => ∃ pre' : List OkX, pre'.map Subtype.val = pre ∧ J pre' W) (fun pre W => ∃ pre' : List OkX, pre'.map Subtype.val = pre ∧ Jx pre' W)
      (fun s X Y row ⟨pre', e, h⟩ hg hr => ⟨pre', e, hJ _ _ _ row h hg hr⟩) ?_ W (blk_below HS.out hW) (blk_below HP.out hW) (Kd.C_below HR.out (HC3.out.hB.trans (hW.mono HC3.out.hB.size))) (fun k hk => lL' (HLT.out k hk) hW.size) ⟨[], rfl, h0⟩).mono ?_
     ·
      rintro pre x W1 hok ⟨pre', rfl, hj⟩ hlen
      obtain ⟨fn, tmps, asg, bd, hy, hR⟩ := hY pre' ⟨x, hok⟩ W1 hj (by simpa using hlen)
      refine ⟨fn, tmps, asg, bd, hy, hR.mono ?_⟩
      rintro e W2 (⟨rfl, h1, h2⟩ | ⟨rfl, h1⟩)
      ·
       exact .inl ⟨rfl, ⟨_, by simp, h1⟩, h2⟩
      ·
       exact .inr ⟨rfl, ⟨_, by simp, h1⟩⟩
     ·
      rintro e W2 ⟨hv, ⟨ys, rfl, ys', e1, h1⟩ | ⟨pre, ⟨k, hk, rfl⟩, pre', e1, h1⟩⟩
      ·
       exact ⟨hv, .inl ⟨ys', e1, h1⟩⟩
      ·
       exact ⟨hv, .inr ⟨pre', ⟨k, hk, e1⟩, h1⟩⟩
    case assign =>
     rintro l2 pre x W K ⟨st, hu, hok, hC, hz⟩ hK
     gi_wp2
     have hg := World.grownBy_alloc W (.cells (nodeA x.1.1) 46) none
     refine hK _ _ (KeepsFrom.of_grownBy hg (fun j e => by cases e)) (fun k hk => hg.block k (lL' (HLT.out k hk) hz) (by simp)) ⟨st, hu, hok, hC.below (below_alloc (Below.refl _ _) _), by simp; omega⟩ ⟨W.heap.size, hz, blk_new W _, rfl⟩
    case body =>
     rintro l2 pre x a' W hl2 - ⟨st, hu, hok, hC, hz⟩ ⟨bx, hbx, hb, rfl⟩ hlen
     obtain ⟨B1, hB1⟩ : ∃ B1, w.heap.size + 1 = B1 := ⟨_, rfl⟩
     have cn0 : W.cell? ⟨B1, 0, none⟩ = some (.string st.f0) := by rw [← hB1]; exact blk_cell hC.h1 0
     have cn1 : W.cell? ⟨B1, 1, none⟩ = some (.int .u64 st.f1.f0) := by rw [← hB1]; exact blk_cell hC.h1 1
     have cn2 : W.cell? ⟨B1, 2, none⟩ = some (.int .u64 st.f1.f1) := by rw [← hB1]; exact blk_cell hC.h1 2
     have cs0 : W.cell? ⟨bx, 0, none⟩ = some (.string x.1.1.f0) := blk_cell hb 0
     have cs1 : W.cell? ⟨bx, 1, none⟩ = some (.int .u64 x.1.1.f1.f0) := blk_cell hb 1
     have cs2 : W.cell? ⟨bx, 2, none⟩ = some (.int .u64 x.1.1.f1.f1) := blk_cell hb 2
     have hlb : bx < W.heap.size := blk_lt hb
     have hlw : B1 < W.heap.size := by rw [← hB1]; exact blk_lt hC.h1
     have q1 : bx ≠ W.heap.size := by omega
     have q2 : bx ≠ W.heap.size + 1 := by omega
     have q3 : B1 ≠ W.heap.size := by omega
     have q4 : B1 ≠ W.heap.size + 1 := by omega
     have HU := aM' hu
     have HOK := aM' hok
     have HC := aM' hC
     have HZZ := aM' hz
     have HBX := aM' hbx
     have HBC := aM' hb
     have HB1 := aM' hB1
     clear hu hok hC hz hbx hb hlen
     rw [hB1]
     clear hB1
     gi_upto_region 8 with (fail)
     refine wpIn_mono (Q := fun e a' W' => e = .normal ∧ ∃ b12 b13, a' = ({ tmps := #[.int .i64 wd, nodeV n, .int .u64 p, .slice A l.length c, .pointer (some ⟨w.heap.size, 0, none⟩), .pointer (some ⟨B1, 0, none⟩), undef, undef, .pointer (some ⟨B1 + 1, 0, none⟩), .pointer (some ⟨B1 + 1 + 1, 0, none⟩), .pointer (some ⟨bx, 0, none⟩), .bool x.1.2, .pointer (some ⟨b12, 0, none⟩), .pointer (some ⟨b13, 0, none⟩), undef, undef, .bool false, .int .i64 wd, .agg #[.string n.f0, .int .u64 n.f1.f0, .int .u64 n.f1.f1], .bool true, .bool false, .bool false, .int .i64 wd, .slice A l.length c, .bool true, .bool false, .bool false, undef, .bool false, .slice A l.length c, .int .i64 (l.length : Int), .bool false, undef, .int .u64 p, .slice A l.length c, .func (.func 108) #[] #[.pointer (some ⟨w2.heap.size + 1, 0, none⟩), .pointer (some ⟨w2.heap.size, 0, none⟩)], nodeV x.1.1, .bool x.1.2, .agg #[.string x.1.1.f0, .int .u64 x.1.1.f1.f0, .int .u64 x.1.1.f1.f1], .agg #[.string st.f0, .int .u64 st.f1.f0, .int .u64 st.f1.f1], undef, undef, undef, undef, undef, undef, undef, undef, undef, undef, undef, undef, undef, undef, undef, undef], defers := [] } : Act) ∧ Two W b12 b13 x.1.1 st W') ?r8 ?k8
     case r8 =>
      clear HU HOK HC HZZ HBX HBC HI HR HK UN UL HP HS HC3 HZ HL HH HLT HFAR
      gi_region_with (fail)
      all_goals
       refine ⟨rfl, _, _, rfl, ?_⟩
       with_reducible first | exact climb_twoA W x.1.1 st | exact climb_twoB W x.1.1 st
     case k8 =>
      clear cn0 cn1 cn2 cs0 cs1 cs2 hlb hlw q1 q2 q3 q4
      rintro e a' W' ⟨rfl, b12, b13, rfl, hT⟩
      obtain ⟨⟨sd, right⟩, hx⟩ := x
      have HT := aM' hT
      have HX := aM' hx
      clear hT
      dsimp only
      cases right with
      | false =>
       have hC5 := HC.out.below HT.out.hB
       have HC5 := aM' hC5
       have g0 : W'.cell? ⟨w.heap.size, 0, none⟩ = some (.int .i64 wd) := blk_cell hC5.h0 0
       have g1 : W'.cell? ⟨b12, 0, none⟩ = some (.string sd.f0) := blk_cell HT.out.h12 0
       have g2 : W'.cell? ⟨b12, 1, none⟩ = some (.int .u64 sd.f1.f0) := blk_cell HT.out.h12 1
       have g3 : W'.cell? ⟨b12, 2, none⟩ = some (.int .u64 sd.f1.f1) := blk_cell HT.out.h12 2
       have g4 : W'.cell? ⟨b13, 0, none⟩ = some (.string st.f0) := blk_cell HT.out.h13 0
       have g5 : W'.cell? ⟨b13, 1, none⟩ = some (.int .u64 st.f1.f0) := blk_cell HT.out.h13 1
       have g6 : W'.cell? ⟨b13, 2, none⟩ = some (.int .u64 st.f1.f1) := blk_cell HT.out.h13 2
       clear hC5
       rcases hj : joinI wd sd st with ⟨r1, r2, r3, r4⟩
       have hs : stepI wd st (sd, false) = (r1, r2, r3, r4) := hj
       have hok2 := joinI_ok wd sd st hx HOK.out
       obtain ⟨kk, hkk⟩ := (join_ev wd sd st hx HOK.out)
       have HJ := aM' (hkk kk (Nat.le_refl _))
       have HS2 := aM' hs
       rw [hj] at HJ hok2
       have HOK2 := aM' hok2
       clear hkk hj hs hok2
       gi_wp2_with fail
       refine ⟨trivial, ?_⟩
       refine (CallsIn.inRound l2 (callsIn_wide.2 (node_Join.calls kk wd sd.f0 sd.f1.f0 sd.f1.f1 st.f0 st.f1.f0 st.f1.f1 r1 r2 r3 r4 _ (HK.out.below HC5.out.hB) HJ.out))).mono ?_
       rintro e w5 ⟨rfl, hb5⟩
       clear g0 g1 g2 g3 g4 g5 g6
       have HB5 := aM' hb5
       have hC6 := HC5.out.below hb5
       have HC6 := aM' hC6
       have hlz := hC6.lt
       have q3 : B1 ≠ w5.heap.size := by have := HB1.out; omega
       have q4 : B1 + 1 ≠ w5.heap.size := by have := HB1.out; omega
       have q5 : B1 + 1 + 1 ≠ w5.heap.size := by have := HB1.out; omega
       have z3 : B1 < w5.heap.size := by have := HB1.out; omega
       have z4 : B1 + 1 < w5.heap.size := by have := HB1.out; omega
       have z5 : B1 + 1 + 1 < w5.heap.size := by have := HB1.out; omega
       have hw3 : B1 + 1 + 1 < w3.heap.size := by have := HB1.out; have := HC3.out.lt; omega
       have HW3 := aM' hw3
       clear hb5 hlz hw3
       by_cases h0 : r4 = 0
       ·
        subst h0
        have cn0 : w5.cell? ⟨B1, 0, none⟩ = some (.string st.f0) := by rw [← HB1.out]; exact blk_cell hC6.h1 0
        have cn1 : w5.cell? ⟨B1, 1, none⟩ = some (.int .u64 st.f1.f0) := by rw [← HB1.out]; exact blk_cell hC6.h1 1
        have cn2 : w5.cell? ⟨B1, 2, none⟩ = some (.int .u64 st.f1.f1) := by rw [← HB1.out]; exact blk_cell hC6.h1 2
        have fn : ∀ i, w5.frozen? ⟨B1, i, none⟩ = false := fun i => by rw [← HB1.out]; exact blk_frozen hC6.h1 i
        clear hC6
        gi_wp2
        have hend := bar_alloc (bar_set (bar_set (bar_set (bar_step (bar_below HT.out.hB B1) HB5.out) (a := ⟨B1, 0, none⟩) (v := .string r1) (.inl rfl)) (a := ⟨B1, 1, none⟩) (v := .int .u64 r2) (.inl rfl)) (a := ⟨B1, 2, none⟩) (v := .int .u64 r3) (.inl rfl)) (.cells #[.string r1, .int .u64 r2, .int .u64 r3] 46)
        change KeepsFrom _ W _ ∧ _ ∧ _
        refine ⟨KeepsFrom.of_grownBy hend (fun j e => by have := Option.some.inj e; have := HW3.out; omega), fun k hk => hend.block k (lL' (HLT.out k hk) HZZ.out) (fun e => HFAR.out k hk (by have := Option.some.inj e; have := HB1.out; omega)), nodeJ (r1, r2, r3, 0), ?_, HOK2.out, ?_, Nat.le_trans HZZ.out hend.size⟩
        ·
         have := upTo_snoc wd (sd, false) _ _ _ HU.out (by rw [HS2.out])
         rw [HS2.out] at this
         rw [List.map_append]
         exact this
        ·
         have := (HC6.out.step (nodeJ (r1, r2, r3, 0))).below (below_alloc (Below.refl _ _) (.cells #[.string r1, .int .u64 r2, .int .u64 r3] 46))
         rw [HB1.out] at this
         exact this
       ·
        have b1 : (r4 != 0) = true := by simp [h0]
        have cr0 : w5.cell? ⟨B1 + 1, 0, none⟩ = some (.string ⟨#[]⟩) := by rw [← HB1.out]; exact blk_cell hC6.h2 0
        have cr1 : w5.cell? ⟨B1 + 1, 1, none⟩ = some (.int .u64 0) := by rw [← HB1.out]; exact blk_cell hC6.h2 1
        have cr2 : w5.cell? ⟨B1 + 1, 2, none⟩ = some (.int .u64 0) := by rw [← HB1.out]; exact blk_cell hC6.h2 2
        have fr : ∀ i, w5.frozen? ⟨B1 + 1, i, none⟩ = false := fun i => by rw [← HB1.out]; exact blk_frozen hC6.h2 i
        have ce : w5.cell? ⟨B1 + 1 + 1, 0, none⟩ = some (.int .i64 0) := by rw [← HB1.out]; exact blk_cell hC6.h3 0
        have fe : ∀ i, w5.frozen? ⟨B1 + 1 + 1, i, none⟩ = false := fun i => by rw [← HB1.out]; exact blk_frozen hC6.h3 i
        clear hC6
        gi_wp2
        have hend := bar_set (bar_set (bar_set (bar_step (bar_below HT.out.hB (B1 + 1)) HB5.out) (a := ⟨B1 + 1, 0, none⟩) (v := .string ⟨#[]⟩) (.inl rfl)) (a := ⟨B1 + 1, 1, none⟩) (v := .int .u64 0) (.inl rfl)) (a := ⟨B1 + 1, 2, none⟩) (v := .int .u64 0) (.inl rfl)
        change KeepsFrom _ W _ ∧ _
        refine ⟨(KeepsFrom.of_grownBy hend (fun j e => by have := Option.some.inj e; have := HW3.out; omega)).trans ((KeepsFrom.of_grownBy (grownBy_setCell' _ (B1 + 1 + 1) (.int .i64 r4)) (fun j e => by have := Option.some.inj e; have := HW3.out; omega)).trans (KeepsFrom.of_grownBy (World.grownBy_alloc _ (.cells #[.string r1, .int .u64 r2, .int .u64 r3] 46) none) (fun j e => by cases e))), rfl, pre.map Subtype.val, (sd, false), st, st, by simp, HU.out, by rw [HS2.out]; exact h0, ?_⟩
        rw [HS2.out]
        have := (HC6.out.put ⟨⟨#[]⟩, ⟨0, 0⟩⟩ r4).below (below_alloc (Below.refl _ _) (.cells #[.string r1, .int .u64 r2, .int .u64 r3] 46))
        rw [HB1.out] at this
        exact this
      | true =>
       have hC5 := HC.out.below HT.out.hB
       have hbx2 : W'.heap[bx]? = some (.cells (nodeA sd) 46 (0, 0)) := blk_below HBC.out HT.out.hB
       have g1 : W'.cell? ⟨b12, 0, none⟩ = some (.string sd.f0) := blk_cell HT.out.h12 0
       have g2 : W'.cell? ⟨b12, 1, none⟩ = some (.int .u64 sd.f1.f0) := blk_cell HT.out.h12 1
       have g3 : W'.cell? ⟨b12, 2, none⟩ = some (.int .u64 sd.f1.f1) := blk_cell HT.out.h12 2
       have g4 : W'.cell? ⟨b13, 0, none⟩ = some (.string st.f0) := blk_cell HT.out.h13 0
       have g5 : W'.cell? ⟨b13, 1, none⟩ = some (.int .u64 st.f1.f0) := blk_cell HT.out.h13 1
       have g6 : W'.cell? ⟨b13, 2, none⟩ = some (.int .u64 st.f1.f1) := blk_cell HT.out.h13 2
       have f12 : ∀ i, W'.frozen? ⟨b12, i, none⟩ = false := fun i => blk_frozen HT.out.h12 i
       have f13 : ∀ i, W'.frozen? ⟨b13, i, none⟩ = false := fun i => blk_frozen HT.out.h13 i
       have n0 : W'.cell? ⟨B1, 0, none⟩ = some (.string st.f0) := by rw [← HB1.out]; exact blk_cell hC5.h1 0
       have n1 : W'.cell? ⟨B1, 1, none⟩ = some (.int .u64 st.f1.f0) := by rw [← HB1.out]; exact blk_cell hC5.h1 1
       have n2 : W'.cell? ⟨B1, 2, none⟩ = some (.int .u64 st.f1.f1) := by rw [← HB1.out]; exact blk_cell hC5.h1 2
       have s0 : W'.cell? ⟨bx, 0, none⟩ = some (.string sd.f0) := blk_cell hbx2 0
       have s1 : W'.cell? ⟨bx, 1, none⟩ = some (.int .u64 sd.f1.f0) := blk_cell hbx2 1
       have s2 : W'.cell? ⟨bx, 2, none⟩ = some (.int .u64 sd.f1.f1) := blk_cell hbx2 2
       have hlb : bx < W.heap.size := blk_lt HBC.out
       have hlw : B1 < W.heap.size := by rw [← HB1.out]; exact blk_lt HC.out.h1
       have u1 : bx ≠ b12 := by have := HT.out.l12; omega
       have u2 : bx ≠ b13 := by have := HT.out.l13; omega
       have u3 : B1 ≠ b12 := by have := HT.out.l12; omega
       have u4 : B1 ≠ b13 := by have := HT.out.l13; omega
       have u5 : b12 ≠ b13 := HT.out.ne
       have u6 : b13 ≠ b12 := Ne.symm HT.out.ne
       clear hC5 hbx2 hlb hlw
       gi_upto_region 10 with (fail)
       refine wpIn_mono (Q := fun e a' V => e = .normal ∧ a' = ({ tmps := #[.int .i64 wd, nodeV n, .int .u64 p, .slice A l.length c, .pointer (some ⟨w.heap.size, 0, none⟩), .pointer (some ⟨B1, 0, none⟩), undef, undef, .pointer (some ⟨B1 + 1, 0, none⟩), .pointer (some ⟨B1 + 1 + 1, 0, none⟩), .pointer (some ⟨bx, 0, none⟩), .bool true, .pointer (some ⟨b12, 0, none⟩), .pointer (some ⟨b13, 0, none⟩), undef, undef, .bool false, .int .i64 wd, .agg #[.string n.f0, .int .u64 n.f1.f0, .int .u64 n.f1.f1], .bool true, .bool false, .bool false, .int .i64 wd, .slice A l.length c, .bool true, .bool false, .bool false, undef, .bool false, .slice A l.length c, .int .i64 (l.length : Int), .bool false, undef, .int .u64 p, .slice A l.length c, .func (.func 108) #[] #[.pointer (some ⟨w2.heap.size + 1, 0, none⟩), .pointer (some ⟨w2.heap.size, 0, none⟩)], nodeV sd, .bool true, .agg #[.string sd.f0, .int .u64 sd.f1.f0, .int .u64 sd.f1.f1], .agg #[.string st.f0, .int .u64 st.f1.f0, .int .u64 st.f1.f1], .bool true, .agg #[.string st.f0, .int .u64 st.f1.f0, .int .u64 st.f1.f1], .agg #[.string sd.f0, .int .u64 sd.f1.f0, .int .u64 sd.f1.f1], undef, undef, undef, undef, undef, undef, undef, undef, undef, undef, undef, undef, undef], defers := [] } : Act) ∧ Two W b12 b13 st sd V) ?r10 ?k10
       case r10 =>
        clear HU HOK HC HZZ HBX HBC HI HR HK UN UL HP HS HC3 HZ HL HH HLT HFAR HB1
        gi_region_with (fail)
        all_goals
         refine ⟨rfl, rfl, ?_⟩
         have h2 := HT.out.put st sd
         with_reducible exact ⟨h2.ne, h2.l12, h2.l13, below_drew h2.hB, blk_drew h2.h12, blk_drew h2.h13⟩
       case k10 =>
       clear g1 g2 g3 g4 g5 g6 f12 f13 n0 n1 n2 s0 s1 s2 u1 u2 u3 u4 u5 u6 HT
       clear W'
       rintro e a' W' ⟨rfl, rfl, hT⟩
       have HT := aM' hT
       clear hT
       dsimp only
       have hC5 := HC.out.below HT.out.hB
       have HC5 := aM' hC5
       have g0 : W'.cell? ⟨w.heap.size, 0, none⟩ = some (.int .i64 wd) := blk_cell hC5.h0 0
       have g1 : W'.cell? ⟨b12, 0, none⟩ = some (.string st.f0) := blk_cell HT.out.h12 0
       have g2 : W'.cell? ⟨b12, 1, none⟩ = some (.int .u64 st.f1.f0) := blk_cell HT.out.h12 1
       have g3 : W'.cell? ⟨b12, 2, none⟩ = some (.int .u64 st.f1.f1) := blk_cell HT.out.h12 2
       have g4 : W'.cell? ⟨b13, 0, none⟩ = some (.string sd.f0) := blk_cell HT.out.h13 0
       have g5 : W'.cell? ⟨b13, 1, none⟩ = some (.int .u64 sd.f1.f0) := blk_cell HT.out.h13 1
       have g6 : W'.cell? ⟨b13, 2, none⟩ = some (.int .u64 sd.f1.f1) := blk_cell HT.out.h13 2
       clear hC5
       rcases hj : joinI wd st sd with ⟨r1, r2, r3, r4⟩
       have hs : stepI wd st (sd, true) = (r1, r2, r3, r4) := hj
       have hok2 := joinI_ok wd st sd HOK.out hx
       obtain ⟨kk, hkk⟩ := (join_ev wd st sd HOK.out hx)
       have HJ := aM' (hkk kk (Nat.le_refl _))
       have HS2 := aM' hs
       rw [hj] at HJ hok2
       have HOK2 := aM' hok2
       clear hkk hj hs hok2
       gi_wp2_with fail
       refine ⟨trivial, ?_⟩
       refine (CallsIn.inRound l2 (callsIn_wide.2 (node_Join.calls kk wd st.f0 st.f1.f0 st.f1.f1 sd.f0 sd.f1.f0 sd.f1.f1 r1 r2 r3 r4 _ (HK.out.below HC5.out.hB) HJ.out))).mono ?_
       rintro e w5 ⟨rfl, hb5⟩
       clear g0 g1 g2 g3 g4 g5 g6
       have HB5 := aM' hb5
       have hC6 := HC5.out.below hb5
       have HC6 := aM' hC6
       have hlz := hC6.lt
       have q3 : B1 ≠ w5.heap.size := by have := HB1.out; omega
       have q4 : B1 + 1 ≠ w5.heap.size := by have := HB1.out; omega
       have q5 : B1 + 1 + 1 ≠ w5.heap.size := by have := HB1.out; omega
       have z3 : B1 < w5.heap.size := by have := HB1.out; omega
       have z4 : B1 + 1 < w5.heap.size := by have := HB1.out; omega
       have z5 : B1 + 1 + 1 < w5.heap.size := by have := HB1.out; omega
       have hw3 : B1 + 1 + 1 < w3.heap.size := by have := HB1.out; have := HC3.out.lt; omega
       have HW3 := aM' hw3
       clear hb5 hlz hw3
       by_cases h0 : r4 = 0
       ·
        subst h0
        have cn0 : w5.cell? ⟨B1, 0, none⟩ = some (.string st.f0) := by rw [← HB1.out]; exact blk_cell hC6.h1 0
        have cn1 : w5.cell? ⟨B1, 1, none⟩ = some (.int .u64 st.f1.f0) := by rw [← HB1.out]; exact blk_cell hC6.h1 1
        have cn2 : w5.cell? ⟨B1, 2, none⟩ = some (.int .u64 st.f1.f1) := by rw [← HB1.out]; exact blk_cell hC6.h1 2
        have fn : ∀ i, w5.frozen? ⟨B1, i, none⟩ = false := fun i => by rw [← HB1.out]; exact blk_frozen hC6.h1 i
        clear hC6
        gi_wp2
        have hend := bar_alloc (bar_set (bar_set (bar_set (bar_step (bar_below HT.out.hB B1) HB5.out) (a := ⟨B1, 0, none⟩) (v := .string r1) (.inl rfl)) (a := ⟨B1, 1, none⟩) (v := .int .u64 r2) (.inl rfl)) (a := ⟨B1, 2, none⟩) (v := .int .u64 r3) (.inl rfl)) (.cells #[.string r1, .int .u64 r2, .int .u64 r3] 46)
        change KeepsFrom _ W _ ∧ _ ∧ _
        refine ⟨KeepsFrom.of_grownBy hend (fun j e => by have := Option.some.inj e; have := HW3.out; omega), fun k hk => hend.block k (lL' (HLT.out k hk) HZZ.out) (fun e => HFAR.out k hk (by have := Option.some.inj e; have := HB1.out; omega)), nodeJ (r1, r2, r3, 0), ?_, HOK2.out, ?_, Nat.le_trans HZZ.out hend.size⟩
        ·
         have := upTo_snoc wd (sd, true) _ _ _ HU.out (by rw [HS2.out])
         rw [HS2.out] at this
         rw [List.map_append]
         exact this
        ·
         have := (HC6.out.step (nodeJ (r1, r2, r3, 0))).below (below_alloc (Below.refl _ _) (.cells #[.string r1, .int .u64 r2, .int .u64 r3] 46))
         rw [HB1.out] at this
         exact this
       ·
        have b1 : (r4 != 0) = true := by simp [h0]
        have cr0 : w5.cell? ⟨B1 + 1, 0, none⟩ = some (.string ⟨#[]⟩) := by rw [← HB1.out]; exact blk_cell hC6.h2 0
        have cr1 : w5.cell? ⟨B1 + 1, 1, none⟩ = some (.int .u64 0) := by rw [← HB1.out]; exact blk_cell hC6.h2 1
        have cr2 : w5.cell? ⟨B1 + 1, 2, none⟩ = some (.int .u64 0) := by rw [← HB1.out]; exact blk_cell hC6.h2 2
        have fr : ∀ i, w5.frozen? ⟨B1 + 1, i, none⟩ = false := fun i => by rw [← HB1.out]; exact blk_frozen hC6.h2 i
        have ce : w5.cell? ⟨B1 + 1 + 1, 0, none⟩ = some (.int .i64 0) := by rw [← HB1.out]; exact blk_cell hC6.h3 0
        have fe : ∀ i, w5.frozen? ⟨B1 + 1 + 1, i, none⟩ = false := fun i => by rw [← HB1.out]; exact blk_frozen hC6.h3 i
        clear hC6
        gi_wp2
        have hend := bar_set (bar_set (bar_set (bar_step (bar_below HT.out.hB (B1 + 1)) HB5.out) (a := ⟨B1 + 1, 0, none⟩) (v := .string ⟨#[]⟩) (.inl rfl)) (a := ⟨B1 + 1, 1, none⟩) (v := .int .u64 0) (.inl rfl)) (a := ⟨B1 + 1, 2, none⟩) (v := .int .u64 0) (.inl rfl)
        change KeepsFrom _ W _ ∧ _
        refine ⟨(KeepsFrom.of_grownBy hend (fun j e => by have := Option.some.inj e; have := HW3.out; omega)).trans ((KeepsFrom.of_grownBy (grownBy_setCell' _ (B1 + 1 + 1) (.int .i64 r4)) (fun j e => by have := Option.some.inj e; have := HW3.out; omega)).trans (KeepsFrom.of_grownBy (World.grownBy_alloc _ (.cells #[.string r1, .int .u64 r2, .int .u64 r3] 46) none) (fun j e => by cases e))), rfl, pre.map Subtype.val, (sd, true), st, st, by simp, HU.out, by rw [HS2.out]; exact h0, ?_⟩
        rw [HS2.out]
        have := (HC6.out.put ⟨⟨#[]⟩, ⟨0, 0⟩⟩ r4).below (below_alloc (Below.refl _ _) (.cells #[.string r1, .int .u64 r2, .int .u64 r3] 46))
        rw [HB1.out] at this
        exact this
    case done =>
     rintro D xs W hD hxs ⟨st, hu, hok, hC, hz⟩ hdf
     have HU := aM' (show climbI wd n p l = (st.f0, st.f1.f0, st.f1.f1, 0) by
      rw [HI.out, ← hxs, show xs.map Subtype.val = xs.map Subtype.val ++ [] by simp, climbL_up wd [] _ _ _ hu]; rfl)
     have cn0 : W.cell? ⟨w.heap.size + 1, 0, none⟩ = some (.string st.f0) := blk_cell hC.h1 0
     have cn1 : W.cell? ⟨w.heap.size + 1, 1, none⟩ = some (.int .u64 st.f1.f0) := blk_cell hC.h1 1
     have cn2 : W.cell? ⟨w.heap.size + 1, 2, none⟩ = some (.int .u64 st.f1.f1) := blk_cell hC.h1 2
     have cr0 : W.cell? ⟨w.heap.size + 1 + 1, 0, none⟩ = some (.string ⟨#[]⟩) := blk_cell hC.h2 0
     have cr1 : W.cell? ⟨w.heap.size + 1 + 1, 1, none⟩ = some (.int .u64 0) := blk_cell hC.h2 1
     have cr2 : W.cell? ⟨w.heap.size + 1 + 1, 2, none⟩ = some (.int .u64 0) := blk_cell hC.h2 2
     have fr : ∀ i, W.frozen? ⟨w.heap.size + 1 + 1, i, none⟩ = false := fun i => blk_frozen hC.h2 i
     have ce : W.cell? ⟨w.heap.size + 1 + 1 + 1, 0, none⟩ = some (.int .i64 0) := blk_cell hC.h3 0
     have fe : ∀ i, W.frozen? ⟨w.heap.size + 1 + 1 + 1, i, none⟩ = false := fun i => blk_frozen hC.h3 i
     have HC := aM' hC
     have HDF := aM' hdf
     have HDD := aM' hD
     clear hu hok hC hz hdf hD hxs
     gi_wp2
     rw [HU.out]
     have hDn : w.heap.size + 1 + 1 + 1 < D := by have := HDD.out; rw [HZ.out] at this; have := HL.out; omega
     exact climb_retD (HC.out.put st 0) hDn (blk_res HDF.out (by omega) (by omega) _ _ _ _) rfl rfl (fun W' hb => ⟨rfl, hb⟩)
    case stop =>
     rintro D c2 pre W hD ⟨k, hk, hp1⟩ ⟨rfl, pre0, x, st, st', h1, h2, h3, h4⟩ hdf
     obtain ⟨rest, hrest⟩ := turnsTo_pre p l k (l.length - k)
     rw [show k + (l.length - k) = l.length by omega, ← hp1, h1, List.append_assoc] at hrest
     have HU := aM' (show climbI wd n p l = (⟨#[]⟩, 0, 0, (stepI wd st x).2.2.2) by
      rw [HI.out, hrest, climbL_up wd _ _ _ _ h2]
      show climbL wd st (x :: rest) = _
      unfold climbL; rw [if_neg h3])
     gi_wp2
     rw [HU.out]
     exact climb_retD h4 (by rw [HZ.out] at hD; have := HL.out; omega) hdf rfl rfl (fun W' hb => ⟨rfl, hb⟩)
def node_Climb.f (x0 : Int) (x1 : ByteArray) (x2 x3 p : Int) (l : List SNode) : Option (ByteArray × Int × Int × Int) :=
 if 0 ≤ p ∧ ((0 ≤ x2 ∧ x2 < 18446744073709551616) ∧ (0 ≤ x3 ∧ x3 < 18446744073709551616)) ∧ ∀ x ∈ l, (0 ≤ x.f1.f0 ∧ x.f1.f0 < 18446744073709551616) ∧ (0 ≤ x.f1.f1 ∧ x.f1.f1 < 18446744073709551616) then some (climbI x0 ⟨x1, ⟨x2, x3⟩⟩ p l) else none
theorem node_Climb.calls (x0 : Int) (x1 : ByteArray) (x2 x3 p : Int) (A : Option Addr) (c : Nat) (l : List SNode) (r1 : ByteArray) (r2 r3 r4 : Int) (w : World) (hK : Laid w) (hr : Kd.C kNode w A l.length l) (hc : l.length ≤ c) (h : node_Climb.f x0 x1 x2 x3 p l = some (r1, r2, r3, r4)) :
  Calls Tryd.prog 40 #[.int .i64 x0, .agg #[.string x1, .int .u64 x2, .int .u64 x3], .int .u64 p, .slice A l.length c] w fun e w' => e = .returned (.tuple #[.agg #[.string r1, .int .u64 r2, .int .u64 r3], .int .i64 r4]) ∧ Below w.heap.size w w' := by
 unfold node_Climb.f at h
 split at h
 ·
  rename_i hh
  have h2 := Option.some.inj h
  refine (climb.calls x0 ⟨x1, ⟨x2, x3⟩⟩ p A c l w hK hr hh.1 ⟨hh.2.1.1, hh.2.1.2⟩ (fun x hx => ⟨(hh.2.2 x hx).1, (hh.2.2 x hx).2⟩)).mono ?_
  rintro e w' ⟨rfl, hb⟩
  rw [h2]
  exact ⟨rfl, hb⟩
 ·
  cases h
end Go.Proofs.YtfcodmdckcihmaaDoor.P
namespace Go.Proofs.YtfcodmdckcihmaaDoor.P
open Go.RowKit Go.Proofs.YtfcodmdckcihmaaDoorW.PrintWords Go.Proofs.YtfcodmdckcihmaaDoorW.PrintLast Go.Proofs.YtfcodmdckcihmaaDoorW.PrintMore
set_option linter.unusedVariables false
set_option linter.unusedSimpArgs false
set_option linter.unnecessarySimpa false
def valU (u : SU128) : Int := u.f0 * 18446744073709551616 + u.f1
def totL : List SNode → Int
 | [] => 0
 | n :: l => valU n.f1 + totL l
theorem totL_append : ∀ a b : List SNode, totL (a ++ b) = totL a + totL b
 | [], b => by simp [totL]
 | n :: a, b => by rw [List.cons_append, totL, totL, totL_append a b]; omega
structure NodeK (w : Int) (n : SNode) : Prop where
 of : nodeOf w n = true
 u : OkU n.f1
theorem valU_nn {u : SU128} (h : OkU u) : 0 ≤ valU u := by have := h.h0; have := h.h1; unfold valU; omega
theorem valU_lt {u : SU128} (h : OkU u) : valU u < 340282366920938463463374607431768211456 := by have := h.h0; have := h.h1; unfold valU; omega
theorem totL_nn {w : Int} : ∀ {l : List SNode}, (∀ x ∈ l, NodeK w x) → 0 ≤ totL l
 | [], _ => by simp [totL]
 | n :: l, h => by
  have h1 := valU_nn (h n (List.mem_cons_self ..)).u
  have h2 := totL_nn (l := l) fun x hx => h x (List.mem_cons_of_mem _ hx)
  rw [totL]; omega
def joinV (w : Int) (l r : SNode) : SNode := ⟨dgI w (nodeText l r), ⟨l.f1.f0 + r.f1.f0 + (l.f1.f1 + r.f1.f1) / 18446744073709551616, (l.f1.f1 + r.f1.f1) % 18446744073709551616⟩⟩
theorem joinV_val (w : Int) (l r : SNode) : valU (joinV w l r).f1 = valU l.f1 + valU r.f1 := by unfold joinV valU; dsimp only; omega
theorem joinV_k {w : Int} {l r : SNode} (hl : NodeK w l) (hr : NodeK w r) (h : valU l.f1 + valU r.f1 < 340282366920938463463374607431768211456) : NodeK w (joinV w l r) := by
 obtain ⟨w1, w2, _⟩ := nodeOf_w hl.of
 refine ⟨?_, ?_⟩
 ·
  have e : ((joinV w l r).f0.size : Int) = w := by show ((dgI w (nodeText l r)).size : Int) = w; rw [dgI_size _ _ (by omega) w2]; omega
  simp [nodeOf, e, w1, w2]
 ·
  have h1 := hl.u.h0; have h2 := hl.u.h1; have h3 := hr.u.h0; have h4 := hr.u.h1
  unfold valU at h
  unfold joinV
  exact ⟨by dsimp only; omega, by dsimp only; omega⟩
theorem joinI_room {w : Int} {l r : SNode} (hl : NodeK w l) (hr : NodeK w r) (h : valU l.f1 + valU r.f1 < 340282366920938463463374607431768211456) : joinI w l r = ((joinV w l r).f0, (joinV w l r).f1.f0, (joinV w l r).f1.f1, 0) := by
 have h2 := hl.u.h1; have h4 := hr.u.h1
 unfold valU at h
 have ha : l.f1.f0 + r.f1.f0 + (l.f1.f1 + r.f1.f1) / 18446744073709551616 < 18446744073709551616 := by omega
 unfold joinI addI128 joinV
 rw [if_pos ⟨hl.of, hr.of⟩, if_pos ha, if_pos rfl]
theorem joinI_full {w : Int} {l r : SNode} (hl : NodeK w l) (hr : NodeK w r) (h : ¬ valU l.f1 + valU r.f1 < 340282366920938463463374607431768211456) : joinI w l r = (⟨#[]⟩, 0, 0, 10) := by
 have h2 := hl.u.h1; have h4 := hr.u.h1
 unfold valU at h
 have ha : ¬ l.f1.f0 + r.f1.f0 + (l.f1.f1 + r.f1.f1) / 18446744073709551616 < 18446744073709551616 := by omega
 unfold joinI addI128
 rw [if_pos ⟨hl.of, hr.of⟩, if_neg ha, if_neg (by decide)]
def pairsV (w : Int) : List SNode → List SNode
 | a :: b :: l => joinV w a b :: pairsV w l
 | _ => []
def pairsOk : List SNode → Bool
 | a :: b :: l => decide (valU a.f1 + valU b.f1 < 340282366920938463463374607431768211456) && pairsOk l
 | _ => true
theorem pairsV_len (w : Int) : ∀ (n : Nat) (l : List SNode), l.length = 2 * n → (pairsV w l).length = n
 | 0, [], _ => rfl
 | n + 1, a :: b :: l, h => by
  rw [pairsV, List.length_cons, pairsV_len w n l (by simp at h; omega)]
theorem pairsV_tot (w : Int) : ∀ (n : Nat) (l : List SNode), l.length = 2 * n → totL (pairsV w l) = totL l
 | 0, [], _ => rfl
 | n + 1, a :: b :: l, h => by
  rw [pairsV, totL, totL, totL, pairsV_tot w n l (by simp at h; omega), joinV_val]; omega
theorem pairsV_k {w : Int} : ∀ (n : Nat) (l : List SNode), l.length = 2 * n → (∀ x ∈ l, NodeK w x) → pairsOk l = true → ∀ x ∈ pairsV w l, NodeK w x
 | 0, [], _, _, _, x, hx => by simp [pairsV] at hx
 | n + 1, a :: b :: l, h, hk, ho, x, hx => by
  simp only [pairsOk, Bool.and_eq_true, decide_eq_true_eq] at ho
  rw [pairsV] at hx
  rcases List.mem_cons.1 hx with rfl | hx
  ·
   exact joinV_k (hk a (by simp)) (hk b (by simp)) ho.1
  ·
   exact pairsV_k n l (by simp at h; omega) (fun y hy => hk y (by simp [hy])) ho.2 x hx
theorem pairsOk_tot {w : Int} : ∀ (n : Nat) (l : List SNode), l.length = 2 * n → (∀ x ∈ l, NodeK w x) → pairsOk l = false → ¬ totL l < 340282366920938463463374607431768211456
 | 0, [], _, _, h => by simp [pairsOk] at h
 | n + 1, a :: b :: l, h, hk, ho => by
  have ha := valU_nn (hk a (by simp)).u
  have hb := valU_nn (hk b (by simp)).u
  have hl : 0 ≤ totL l := totL_nn fun y hy => hk y (by simp [hy])
  rw [totL, totL]
  by_cases h1 : valU a.f1 + valU b.f1 < 340282366920938463463374607431768211456
  ·
   have h2 : pairsOk l = false := by simpa [pairsOk, h1] using ho
   have := pairsOk_tot n l (by simp at h; omega) (fun y hy => hk y (by simp [hy])) h2
   omega
  ·
   omega
theorem pairsV_append (w : Int) : ∀ (n : Nat) (a b : List SNode), a.length = 2 * n → pairsV w (a ++ b) = pairsV w a ++ pairsV w b
 | 0, [], b, _ => rfl
 | n + 1, x :: y :: a, b, h => by
  rw [List.cons_append, List.cons_append, pairsV, pairsV, pairsV_append w n a b (by simp at h; omega)]; rfl
def zeroN : SNode := ⟨⟨#[]⟩, ⟨0, 0⟩⟩
def twoV (w : Int) (l : List SNode) (j : Nat) : SNode := joinV w (l.getD (2 * j) zeroN) (l.getD (2 * j + 1) zeroN)
def twoOk (l : List SNode) (j : Nat) : Prop := valU (l.getD (2 * j) zeroN).f1 + valU (l.getD (2 * j + 1) zeroN).f1 < 340282366920938463463374607431768211456
theorem pairsV_range (w : Int) : ∀ (n : Nat) (l : List SNode), l.length = 2 * n → pairsV w l = (List.range n).map (twoV w l)
 | 0, [], _ => rfl
 | n + 1, a :: b :: l, h => by
  rw [pairsV, pairsV_range w n l (by simp at h; omega), List.range_succ_eq_map, List.map_cons, List.map_map]
  congr 1
theorem pairsOk_range : ∀ (n : Nat) (l : List SNode), l.length = 2 * n → (pairsOk l = true ↔ ∀ j, j < n → twoOk l j)
 | 0, [], _ => by simp [pairsOk]
 | n + 1, a :: b :: l, h => by
  rw [pairsOk, Bool.and_eq_true, decide_eq_true_eq, pairsOk_range n l (by simp at h; omega)]
  constructor
  ·
   rintro ⟨h0, hr⟩ j hj
   match j, hj with
   | 0, _ => exact h0
   | j + 1, hj => exact hr j (by omega)
  ·
   intro hr
   exact ⟨hr 0 (by omega), fun j hj => hr (j + 1) (by omega)⟩
def treeV (w : Int) : Nat → List SNode → SNode
 | 0, l => l.headD zeroN
 | k + 1, l => joinV w (treeV w k (l.take (2 ^ k))) (treeV w k (l.drop (2 ^ k)))
theorem treeV_pairs (w : Int) : ∀ (k : Nat) (l : List SNode), l.length = 2 ^ (k + 1) → treeV w (k + 1) l = treeV w k (pairsV w l)
 | 0, [a, b], _ => rfl
 | k + 1, l, h => by
  have hp : 2 ^ (k + 1 + 1) = 2 * 2 ^ (k + 1) := by rw [Nat.pow_succ]; omega
  have hq : 2 ^ (k + 1) = 2 * 2 ^ k := by rw [Nat.pow_succ]; omega
  have e1 : (l.take (2 ^ (k + 1))).length = 2 ^ (k + 1) := by rw [List.length_take]; omega
  have e2 : (l.drop (2 ^ (k + 1))).length = 2 ^ (k + 1) := by rw [List.length_drop]; omega
  have e : pairsV w l = pairsV w (l.take (2 ^ (k + 1))) ++ pairsV w (l.drop (2 ^ (k + 1))) := by
   rw [← pairsV_append w (2 ^ k) _ _ (by rw [e1, hq]), List.take_append_drop]
  have e3 : (pairsV w (l.take (2 ^ (k + 1)))).length = 2 ^ k := pairsV_len w _ _ (by rw [e1, hq])
  rw [treeV, treeV_pairs w k _ e1, treeV_pairs w k _ e2, treeV, e, List.take_left' e3, List.drop_left' e3]
theorem treeV_val {w : Int} : ∀ (k : Nat) (l : List SNode), l.length = 2 ^ k → valU (treeV w k l).f1 = totL l
 | 0, [a], _ => by simp [treeV, totL]
 | k + 1, l, h => by
  have hp : 2 ^ (k + 1) = 2 * 2 ^ k := by rw [Nat.pow_succ]; omega
  rw [treeV, joinV_val, treeV_val k _ (by rw [List.length_take]; omega), treeV_val k _ (by rw [List.length_drop]; omega), ← totL_append, List.take_append_drop]
theorem treeV_k {w : Int} : ∀ (k : Nat) (l : List SNode), l.length = 2 ^ k → (∀ x ∈ l, NodeK w x) → totL l < 340282366920938463463374607431768211456 → NodeK w (treeV w k l)
 | 0, [a], _, h, _ => h a (by simp)
 | k + 1, l, h, hk, ht => by
  have hp : 2 ^ (k + 1) = 2 * 2 ^ k := by rw [Nat.pow_succ]; omega
  have k1 : ∀ x ∈ l.take (2 ^ k), NodeK w x := fun x hx => hk x (List.mem_of_mem_take hx)
  have k2 : ∀ x ∈ l.drop (2 ^ k), NodeK w x := fun x hx => hk x (List.mem_of_mem_drop hx)
  have t := totL_append (l.take (2 ^ k)) (l.drop (2 ^ k))
  rw [List.take_append_drop] at t
  have t1 := totL_nn k1
  have t2 := totL_nn k2
  have l1 : (l.take (2 ^ k)).length = 2 ^ k := by rw [List.length_take]; omega
  have l2 : (l.drop (2 ^ k)).length = 2 ^ k := by rw [List.length_drop]; omega
  rw [treeV]
  exact joinV_k (treeV_k k _ l1 k1 (by omega)) (treeV_k k _ l2 k2 (by omega)) (by rw [treeV_val k _ l1, treeV_val k _ l2]; omega)
def isPow (n : Nat) : Bool := decide (2 ^ n.log2 = n)
theorem isPow_spec {n : Nat} (h : isPow n = true) : ∃ k, n = 2 ^ k := ⟨n.log2, by unfold isPow at h; simpa using (of_decide_eq_true h).symm⟩
end Go.Proofs.YtfcodmdckcihmaaDoor.P
namespace Go.Proofs.YtfcodmdckcihmaaDoor.P
open Go.RowKit Go.Proofs.YtfcodmdckcihmaaDoorW.PrintWords Go.Proofs.YtfcodmdckcihmaaDoorW.PrintLast Go.Proofs.YtfcodmdckcihmaaDoorW.PrintMore
set_option linter.unusedVariables false
set_option linter.unusedSimpArgs false
set_option linter.unnecessarySimpa false
theorem ba_inj {a b c d : ByteArray} (h : a ++ b = c ++ d) (hs : a.size = c.size) : a = c ∧ b = d := by
 have h1 := ByteArray.append_inj_left h hs
 subst h1
 exact ⟨rfl, (ByteArray.append_right_inj a).1 h⟩
theorem ba_inj2 {a b c d : ByteArray} (h : a ++ b = c ++ d) (hs : b.size = d.size) : a = c ∧ b = d := by
 refine ba_inj h ?_
 have := congrArg ByteArray.size h
 rw [ByteArray.size_append, ByteArray.size_append] at this
 omega
theorem strOfNums_inj : ∀ {a b : List Int}, (∀ x ∈ a, 0 ≤ x ∧ x < 256) → (∀ x ∈ b, 0 ≤ x ∧ x < 256) → strOfNums a = strOfNums b → a = b := by
 intro a b ha hb h
 have h2 : (a.map fun n => UInt8.ofNat n.toNat) = b.map fun n => UInt8.ofNat n.toNat := by
  have := congrArg (fun z => z.data.toList) h
  simpa [strOfNums] using this
 clear h
 induction a generalizing b with
 | nil => cases b with
  | nil => rfl
  | cons y b => cases h2
 | cons x a ih =>
  cases b with
  | nil => cases h2
  | cons y b =>
   rw [List.map_cons, List.map_cons] at h2
   obtain ⟨h3, h4⟩ := List.cons.inj h2
   have hx := ha x (by simp)
   have hy := hb y (by simp)
   have h5 := congrArg UInt8.toNat h3
   rw [UInt8.toNat_ofNat', UInt8.toNat_ofNat'] at h5
   have e : x = y := by omega
   rw [e, ih (fun z hz => ha z (by simp [hz])) (fun z hz => hb z (by simp [hz])) h4]
theorem one_size (x y : Int) : (strOfNums [x]).size = (strOfNums [y]).size := by rw [strOfNums_size, strOfNums_size]; rfl
theorem half_inj (a b : Int) (ha : 0 ≤ a ∧ a < 18446744073709551616) (hb : 0 ≤ b ∧ b < 18446744073709551616) (h : (List.range 8).map (halfB a) = (List.range 8).map (halfB b)) : a = b := by
 simp only [List.range, List.range.loop, List.map_cons, List.map_nil, halfB, Nat.reduceMul, Nat.reduceSub, Int.reducePow, List.cons.injEq, and_true] at h
 omega
theorem u128B_inj {a b a' b' : Int} (h : u128B a b = u128B a' b') (ha : OkU ⟨a, b⟩) (hb : OkU ⟨a', b'⟩) : a = a' ∧ b = b' := by
 unfold u128B at h
 have hd : ∀ x : Int, ∀ y ∈ (List.range 8).map (halfB x), 0 ≤ y ∧ y < 256 := by
  intro x y hy
  obtain ⟨i, -, rfl⟩ := List.mem_map.1 hy
  unfold halfB; omega
 have h2 := strOfNums_inj (fun x hx => (List.mem_append.1 hx).elim (hd _ x) (hd _ x)) (fun x hx => (List.mem_append.1 hx).elim (hd _ x) (hd _ x)) h
 obtain ⟨h3, h4⟩ := List.append_inj h2 (by simp)
 exact ⟨half_inj a a' ha.h0 hb.h0 h3, half_inj b b' ha.h1 hb.h1 h4⟩
theorem nodeText_inj {l r l' r' : SNode} (h : nodeText l r = nodeText l' r') (hl : l.f0.size = l'.f0.size) (ul : OkU l.f1) (ur : OkU r.f1) (ul' : OkU l'.f1) (ur' : OkU r'.f1) : l = l' ∧ r = r' := by
 unfold nodeText at h
 obtain ⟨h, h1⟩ := ba_inj2 h (by rw [u128B_size, u128B_size])
 have hr : r.f0.size = r'.f0.size := by
  have := congrArg ByteArray.size h
  simp only [ByteArray.size_append, u128B_size] at this
  omega
 obtain ⟨h, h2⟩ := ba_inj2 h hr
 obtain ⟨h, h3⟩ := ba_inj2 h (by rw [u128B_size, u128B_size])
 obtain ⟨-, h4⟩ := ba_inj2 h hl
 obtain ⟨a, b⟩ := u128B_inj h1 ur ur'
 obtain ⟨c, d⟩ := u128B_inj h3 ul ul'
 rcases l with ⟨l0, l1, l2⟩; rcases l' with ⟨l0', l1', l2'⟩; rcases r with ⟨r0, r1, r2⟩; rcases r' with ⟨r0', r1', r2'⟩
 dsimp only at *
 subst a b c d h2 h4
 exact ⟨rfl, rfl⟩
theorem idFrom_size (s : ByteArray) : ∀ b n i : Nat, s.size ≤ i + b → idFrom s b n i = true → s.size + 4 * n ≤ i + 96
 | 0, n, i, hi, h => by
  unfold idFrom at h
  simp at h
  omega
 | b + 1, n, i, hi, h => by
  unfold idFrom at h
  split at h
  ·
   split at h
   ·
    cases h
   ·
    rename_i h1 h2
    split at h
    ·
     have h4 := decode_4 s i
     have hp : 1 ≤ (Utf8.decode s i).2 := by
      rcases Nat.eq_zero_or_pos (Utf8.decode s i).2 with h0 | h0
      ·
       rcases runeI_2 s i h1 with h3 | h3
       ·
        exact absurd h3 h2
       ·
        rw [h0] at h3; exact absurd h3 h2
      ·
       exact h0
     have := idFrom_size s b (n + 1) _ (by omega) h
     omega
    ·
     cases h
  ·
   simp at h
   omega
theorem mayId_size {s : ByteArray} (h : mayIdI s = true) : s.size ≤ 96 := by
 have := idFrom_size s s.size 0 0 (by omega) h
 omega
theorem szI_inj {a b c d : ByteArray} (h : szI a ++ b = szI c ++ d) (ha : a.size < 256) (hc : c.size < 256) : a = c ∧ b = d := by
 unfold szI at h
 rw [ByteArray.append_assoc, ByteArray.append_assoc] at h
 obtain ⟨h1, h2⟩ := ba_inj h (one_size _ _)
 have h3 := strOfNums_inj (by intro x hx; simp at hx; omega) (by intro x hx; simp at hx; omega) h1
 simp only [List.cons.injEq, and_true] at h3
 exact ba_inj h2 (by omega)
theorem mayLeaf_salt {l : SLeaf} (h : mayLeafI l = true) : l.f2.size ≤ 32 := by
 unfold mayLeafI at h
 split at h
 ·
  cases h
 ·
  omega
theorem mayLeaf_pad {l : SLeaf} (h : mayLeafI l = true) (hp : l.f0 = true) : l.f1 = ⟨#[]⟩ ∧ l.f3 = ⟨0, 0⟩ := by
 unfold mayLeafI at h
 split at h
 ·
  cases h
 ·
  try rw [if_pos hp] at h
  split at h
  ·
   rename_i h1
   simp at h
   refine ⟨?_, ?_⟩
   ·
    refine ByteArray.ext ?_
    have : l.f1.data.toList = [] := by simpa [ByteArray.toList_eq] using h1
    simpa using this
   ·
    rcases e : l.f3 with ⟨a, b⟩
    rw [e] at h
    dsimp only at h
    rw [h.1, h.2]
  ·
   cases h
theorem mayLeaf_id {l : SLeaf} (h : mayLeafI l = true) (hp : l.f0 = false) : mayIdI l.f1 = true := by
 unfold mayLeafI at h
 split at h
 ·
  cases h
 ·
  rw [if_neg (by rw [hp]; decide)] at h
  exact h
theorem leafText_inj {a b : SLeaf} (ha : mayLeafI a = true) (hb : mayLeafI b = true) (ua : OkU a.f3) (ub : OkU b.f3) (h : leafTextI a = leafTextI b) : a = b := by
 unfold leafTextI at h
 rw [if_pos ha, if_pos hb] at h
 have sa := mayLeaf_salt ha
 have sb := mayLeaf_salt hb
 cases pa : a.f0 with
 | true =>
  cases pb : b.f0 with
  | true =>
   rw [if_pos pa, if_pos pb] at h
   obtain ⟨-, h1⟩ := ba_inj h (one_size _ _)
   have h2 := (szI_inj (a := a.f2) (c := b.f2) (b := ⟨#[]⟩) (d := ⟨#[]⟩) (by rw [h1]) (by omega) (by omega)).1
   obtain ⟨i1, i2⟩ := mayLeaf_pad ha pa
   obtain ⟨j1, j2⟩ := mayLeaf_pad hb pb
   rcases a with ⟨a0, a1, a2, a3⟩; rcases b with ⟨b0, b1, b2, b3⟩
   dsimp only at *
   subst pa pb h2 i1 i2 j1 j2
   rfl
  | false =>
   rw [if_pos pa, if_neg (by rw [pb]; decide), ByteArray.append_assoc, ByteArray.append_assoc] at h
   obtain ⟨h1, -⟩ := ba_inj h (one_size _ _)
   have h3 := strOfNums_inj (by intro x hx; simp at hx; omega) (by intro x hx; simp at hx; omega) h1
   simp at h3
 | false =>
  cases pb : b.f0 with
  | true =>
   rw [if_neg (by rw [pa]; decide), if_pos pb, ByteArray.append_assoc, ByteArray.append_assoc] at h
   obtain ⟨h1, -⟩ := ba_inj h (one_size _ _)
   have h3 := strOfNums_inj (by intro x hx; simp at hx; omega) (by intro x hx; simp at hx; omega) h1
   simp at h3
  | false =>
   rw [if_neg (by rw [pa]; decide), if_neg (by rw [pb]; decide), ByteArray.append_assoc, ByteArray.append_assoc, ByteArray.append_assoc, ByteArray.append_assoc] at h
   have za := mayId_size (mayLeaf_id ha pa)
   have zb := mayId_size (mayLeaf_id hb pb)
   obtain ⟨-, h1⟩ := ba_inj h (one_size _ _)
   obtain ⟨h2, h3⟩ := szI_inj h1 (by omega) (by omega)
   obtain ⟨h4, h5⟩ := szI_inj h3 (by omega) (by omega)
   obtain ⟨h6, h7⟩ := u128B_inj h5 ua ub
   rcases a with ⟨a0, a1, a2, a3, a4⟩; rcases b with ⟨b0, b1, b2, b3, b4⟩
   dsimp only at *
   subst pa pb h2 h4 h6 h7
   rfl
theorem leafNodeI_f0 {w : Int} {x : SLeaf} (hw : 1 ≤ w ∧ w ≤ 32) (h : mayLeafI x = true) : (leafNodeI w x).f0 = dgI w (leafTextI x) := by
 unfold leafNodeI; rw [if_pos ⟨hw, h⟩]
end Go.Proofs.YtfcodmdckcihmaaDoor.P
namespace Go.Proofs.YtfcodmdckcihmaaDoor.P
open Go.RowKit Go.Proofs.YtfcodmdckcihmaaDoorW.PrintWords Go.Proofs.YtfcodmdckcihmaaDoorW.PrintLast Go.Proofs.YtfcodmdckcihmaaDoorW.PrintMore
set_option linter.unusedVariables false
set_option linter.unusedSimpArgs false
set_option linter.unnecessarySimpa false
structure STree where
 wd : Int
 leaves : List SLeaf
 rows : List (List SNode)
structure TreeAt (W : World) (a : Nat) (T : STree) (LA : Option Addr) (cl : Nat) (va : Addr) (cv : Nat) : Prop where
 box : W.heap[a]? = some (.cells #[.int .i64 T.wd, .slice LA T.leaves.length cl, .slice (some va) T.rows.length cv] 105 (0, 0))
 lcap : T.leaves.length ≤ cl
 lread : Kd.C kLeaf W LA T.leaves.length T.leaves
 lmin : 1 ≤ T.leaves.length
 lmax : T.leaves.length ≤ 1024
 vcap : T.rows.length ≤ cv
 vmin : 1 ≤ T.rows.length
 vmax : T.rows.length ≤ 11
 rows : ∀ i, (h : i < T.rows.length) → ∃ ra rc, W.cell? (va.add (i * 2)) = some (.slice (some ra) T.rows[i].length rc) ∧ W.cell? ⟨(va.add (i * 2)).block, (va.add (i * 2)).off + 1, none⟩ = some (.int .i64 (i : Int)) ∧ T.rows[i].length ≤ rc ∧ Kd.C kNode W (some ra) T.rows[i].length T.rows[i] ∧ 1 ≤ T.rows[i].length ∧ T.rows[i].length ≤ 1024
abbrev nodeZ : SNode := ⟨⟨#[]⟩, ⟨0, 0⟩⟩
def TreeR (a : Nat) (T : STree) (W : World) : Prop := ∃ LA cl va cv, TreeAt W a T LA cl va cv
theorem TreeR.below {W W' : World} {a : Nat} {T : STree} (h : TreeR a T W) (hb : Below W.heap.size W W') : TreeR a T W' := by
 obtain ⟨LA, cl, va, cv, h⟩ := h
 refine ⟨LA, cl, va, cv, blk_below h.box hb, h.lcap, Kd.C_below h.lread hb, h.lmin, h.lmax, h.vcap, h.vmin, h.vmax, fun i hi => ?_⟩
 obtain ⟨ra, rc, h1, h1', h2, h3, h4⟩ := h.rows i hi
 exact ⟨ra, rc, pw_cell_below hb h1, pw_cell_below hb h1', h2, Kd.C_below h3 hb, h4⟩
abbrev ptrT (a : Nat) : Value := .pointer (some ⟨a, 0, none⟩)
theorem tNone.calls (a : Nat) (T : STree) (w : World) (h : TreeR a T w) : Calls Tryd.prog 63 #[ptrT a] w fun e w' => e = .returned (.bool false) ∧ w = w' := by
 obtain ⟨LA, cl, va, cv, h⟩ := h
 have hu := Tryd.underlying105
 have h2 : w.cell? ⟨a, 2, none⟩ = some (.slice (some va) T.rows.length cv) := blk_cell h.box 2
 have h3 := h.vmin
 have b0 : ((T.rows.length : Int) == 0) = false := by simp; intro h; rw [h] at h3; simp at h3
 clear h h3
 go_enter Tryd.func63, Tryd.ntmps63
 go_wp2_with fail
 go_ret
 exact ⟨rfl, rfl⟩
theorem tWidth.calls (a : Nat) (T : STree) (w : World) (h : TreeR a T w) : Calls Tryd.prog 18 #[ptrT a] w fun e w' => e = .returned (.int .i64 T.wd) ∧ w = w' := by
 have q := aM' (tNone.calls a T w h)
 obtain ⟨LA, cl, va, cv, h⟩ := h
 have hu := Tryd.underlying105
 have h2 : w.cell? ⟨a, 0, none⟩ = some (.int .i64 T.wd) := blk_cell h.box 0
 clear h
 go_enter Tryd.func18, Tryd.ntmps18
 go_wp2_with fail
 refine q.out.mono ?_
 rintro e w1 ⟨rfl, rfl⟩
 go_wp2
 go_ret
 exact ⟨rfl, rfl⟩
theorem tHeight.calls (a : Nat) (T : STree) (w : World) (h : TreeR a T w) : Calls Tryd.prog 19 #[ptrT a] w fun e w' => e = .returned (.int .i64 ((T.rows.length : Int) - 1)) ∧ w = w' := by
 have q := aM' (tNone.calls a T w h)
 obtain ⟨LA, cl, va, cv, h⟩ := h
 have hu := Tryd.underlying105
 have h2 : w.cell? ⟨a, 2, none⟩ = some (.slice (some va) T.rows.length cv) := blk_cell h.box 2
 have h3 := h.vmin
 have h4 := h.vmax
 clear h
 go_enter Tryd.func19, Tryd.ntmps19
 go_wp2_with fail
 refine q.out.mono ?_
 rintro e w1 ⟨rfl, rfl⟩
 go_wp2
 go_ret
 exact ⟨rfl, rfl⟩
theorem rowAt.calls (ra : Addr) (l : List SNode) (rc : Nat) (p : Int) (w : World) (hr : Kd.C kNode w (some ra) l.length l) (hl : l.length ≤ 1024) (hc : l.length ≤ rc) (hp : 0 ≤ p) :
  Calls Tryd.prog 65 #[.agg #[.slice (some ra) l.length rc], .int .u64 p] w fun e w' => e = .returned (.tuple #[nodeV (l.getD p.toNat nodeZ), .bool (decide (p.toNat < l.length))]) ∧ Below w.heap.size w w' := by
 have hu := Tryd.underlying46
 have hu2 := Tryd.underlying107
 have hw : IntKind.u64.wrap ((l.length : Nat) : Int) = (l.length : Int) := wrapu64_id (by omega) (by omega)
 by_cases h : p.toNat < l.length
 ·
  obtain ⟨n, rfl⟩ := Int.eq_ofNat_of_zero_le hp
  rw [Int.toNat_natCast] at h ⊢
  obtain ⟨a1, e1, p0, p1, p2⟩ := at_TNode hr (n : Int) (by omega) (by omega)
  cases e1
  rw [rdNode_nat l n h, Int.toNat_natCast] at p0 p1 p2
  have e2 : l.getD n nodeZ = l[n] := by simp [List.getD_eq_getElem?_getD, h]
  rw [e2]
  generalize l[n] = x at p0 p1 p2 ⊢
  have f1 := pw_cell_below (below_alloc (below_alloc (Below.refl w.heap.size w) (.cells #[.slice (some ra) l.length rc] 107)) (.cells #[.string ⟨#[]⟩, .int .u64 0, .int .u64 0] 46)) p0
  have f2 := pw_cell_below (below_alloc (below_alloc (Below.refl w.heap.size w) (.cells #[.slice (some ra) l.length rc] 107)) (.cells #[.string ⟨#[]⟩, .int .u64 0, .int .u64 0] 46)) p1
  have f3 := pw_cell_below (below_alloc (below_alloc (Below.refl w.heap.size w) (.cells #[.slice (some ra) l.length rc] 107)) (.cells #[.string ⟨#[]⟩, .int .u64 0, .int .u64 0] 46)) p2
  have b0 : decide ((l.length : Int) ≤ (n : Int)) = false := decide_eq_false (by omega)
  have b1 : decide (l.length ≤ n) = false := decide_eq_false (by omega)
  have b2 : decide (n < l.length) = true := decide_eq_true h
  rw [b2]
  clear hr
  go_enter Tryd.func65, Tryd.ntmps65
  go_wp2
  refine bodyPost_ret (v := .tuple #[nodeV x, .bool true]) ?_ rfl ⟨rfl, ?_⟩
  ·
   simp [results, Tryd.results65, go_sem, hu]
  ·
   repeat (with_reducible first | exact Below.refl _ _ | apply below_alloc | refine below_set ?_ (by (try dsimp only); omega))
 ·
  obtain ⟨n, rfl⟩ := Int.eq_ofNat_of_zero_le hp
  rw [Int.toNat_natCast] at h ⊢
  have b0 : decide ((l.length : Int) ≤ (n : Int)) = true := decide_eq_true (by omega)
  have b1 : decide (l.length ≤ n) = true := decide_eq_true (by omega)
  have b2 : decide (n < l.length) = false := decide_eq_false h
  have e2 : l.getD n nodeZ = nodeZ := by simp [List.getD_eq_getElem?_getD, show l.length ≤ n by omega]
  rw [b2, e2]
  go_enter Tryd.func65, Tryd.ntmps65
  go_wp2
  refine bodyPost_ret (v := .tuple #[nodeV nodeZ, .bool false]) ?_ rfl ⟨rfl, ?_⟩
  ·
   simp [results, Tryd.results65, go_sem, hu]
  ·
   repeat (with_reducible first | exact Below.refl _ _ | apply below_alloc | refine below_set ?_ (by (try dsimp only); omega))
def nodeAtI (T : STree) (n p : Int) : SNode × Bool :=
 if 0 ≤ n ∧ n < (T.rows.length : Int) then ((T.rows.getD n.toNat []).getD p.toNat nodeZ, decide (p.toNat < (T.rows.getD n.toNat []).length)) else (nodeZ, false)
set_option maxRecDepth 100000 in
set_option maxHeartbeats 1000000 in
theorem tNode.calls (a : Nat) (T : STree) (n p : Int) (w : World) (h : TreeR a T w) (hp : 0 ≤ p) :
  Calls Tryd.prog 24 #[ptrT a, .int .i64 n, .int .u64 p] w fun e w' => e = .returned (.tuple #[nodeV (nodeAtI T n p).1, .bool (nodeAtI T n p).2]) ∧ Below w.heap.size w w' := by
 have hu := Tryd.underlying105
 have hu2 := Tryd.underlying109
 have hu3 := Tryd.underlying107
 have hu4 := Tryd.underlying46
 obtain ⟨W1, hW1⟩ : ∃ V, V = w.alloc (.cells #[.string ⟨#[]⟩, .int .u64 0, .int .u64 0] 46) := ⟨_, rfl⟩
 have hb1 : Below w.heap.size w W1 := by rw [hW1]; exact below_alloc (Below.refl _ _) _
 have hz1 : W1.heap[w.heap.size]? = some (.cells #[.string ⟨#[]⟩, .int .u64 0, .int .u64 0] 46 (0, 0)) := by rw [hW1]; exact blk_new _ _
 have h1 := h.below hb1
 have q := aM' (tNone.calls a T W1 h1)
 obtain ⟨LA, cl, va, cv, hT⟩ := h1
 have h2 : W1.cell? ⟨a, 2, none⟩ = some (.slice (some va) T.rows.length cv) := blk_cell hT.box 2
 have z0 : W1.cell? ⟨w.heap.size, 0, none⟩ = some (.string ⟨#[]⟩) := blk_cell hz1 0
 have z1 : W1.cell? ⟨w.heap.size, 1, none⟩ = some (.int .u64 0) := blk_cell hz1 1
 have z2 : W1.cell? ⟨w.heap.size, 2, none⟩ = some (.int .u64 0) := blk_cell hz1 2
 have zf : ∀ i, W1.frozen? ⟨w.heap.size, i, none⟩ = false := fun i => blk_frozen hz1 i
 have hvx := hT.vmax
 have HB1 := aM' hb1
 have HZ1 := aM' hz1
 by_cases hn : 0 ≤ n ∧ n < (T.rows.length : Int)
 ·
  obtain ⟨k, rfl⟩ := Int.eq_ofNat_of_zero_le hn.1
  have hk : k < T.rows.length := by omega
  obtain ⟨ra, rc, c0, -, hrc, hrd, -, hl2⟩ := hT.rows k hk
  have hI : nodeAtI T (k : Int) p = (T.rows[k].getD p.toNat nodeZ, decide (p.toNat < T.rows[k].length)) := by
   unfold nodeAtI; rw [if_pos hn, Int.toNat_natCast, show T.rows.getD k [] = T.rows[k] by simp [List.getD_eq_getElem?_getD, hk]]
  rw [hI]
  generalize T.rows[k] = l at c0 hrc hrd hl2 ⊢
  have HQ := aM' (rowAt.calls ra l rc p W1 hrd hl2 hrc hp)
  have b0 : decide ((k : Int) < 0) = false := decide_eq_false (by omega)
  have b1 : decide ((T.rows.length : Int) ≤ (k : Int)) = false := decide_eq_false (by omega)
  have b2 : decide (T.rows.length ≤ k) = false := decide_eq_false (by omega)
  generalize hx : l.getD p.toNat nodeZ = x at HQ ⊢
  generalize hy : decide (p.toNat < l.length) = y at HQ ⊢
  clear hn hx hy hI hrd hl2 hT h hb1 hz1
  go_enter Tryd.func24, Tryd.ntmps24
  go_wp2_with fail
  rw [← hW1]
  clear hW1
  refine q.out.mono ?_
  rintro e w1 ⟨rfl, rfl⟩
  go_wp2_with fail
  refine HQ.out.mono ?_
  rintro e w2 ⟨rfl, hb⟩
  have hz2 := blk_below HZ1.out hb
  have y0 : w2.cell? ⟨w.heap.size, 0, none⟩ = some (.string ⟨#[]⟩) := blk_cell hz2 0
  have y1 : w2.cell? ⟨w.heap.size, 1, none⟩ = some (.int .u64 0) := blk_cell hz2 1
  have y2 : w2.cell? ⟨w.heap.size, 2, none⟩ = some (.int .u64 0) := blk_cell hz2 2
  have yf : ∀ i, w2.frozen? ⟨w.heap.size, i, none⟩ = false := fun i => blk_frozen hz2 i
  have HB2 := aM' (HB1.out.trans (hb.mono HB1.out.size))
  clear hb hz2
  go_wp2
  refine bodyPost_ret (v := .tuple #[nodeV x, .bool y]) ?_ rfl ⟨rfl, ?_⟩
  ·
   simp [results, Tryd.results24, go_sem, hu4, y0, y1, y2]
  ·
   exact below_set (below_set (below_set HB2.out (Nat.le_refl _)) (Nat.le_refl _)) (Nat.le_refl _)
 ·
  have hI : nodeAtI T n p = (nodeZ, false) := by unfold nodeAtI; rw [if_neg hn]
  rw [hI]
  by_cases h0 : n < 0
  ·
   have b0 : decide (n < 0) = true := decide_eq_true h0
   clear hn hI hT h hb1 hz1
   go_enter Tryd.func24, Tryd.ntmps24
   go_wp2_with fail
   rw [← hW1]
   clear hW1
   refine q.out.mono ?_
   rintro e w1 ⟨rfl, rfl⟩
   go_wp2
   refine bodyPost_ret (v := .tuple #[nodeV nodeZ, .bool false]) ?_ rfl ⟨rfl, ?_⟩
   ·
    simp [results, Tryd.results24, go_sem, hu4, z0, z1, z2]
   ·
    exact below_set (below_set (below_set HB1.out (Nat.le_refl _)) (Nat.le_refl _)) (Nat.le_refl _)
  ·
   obtain ⟨k, rfl⟩ := Int.eq_ofNat_of_zero_le (show 0 ≤ n by omega)
   have b0 : decide ((k : Int) < 0) = false := decide_eq_false h0
   have b1 : decide ((T.rows.length : Int) ≤ (k : Int)) = true := decide_eq_true (by omega)
   have b2 : decide (T.rows.length ≤ k) = true := decide_eq_true (by omega)
   clear hn hI hT h hb1 hz1
   go_enter Tryd.func24, Tryd.ntmps24
   go_wp2_with fail
   rw [← hW1]
   clear hW1
   refine q.out.mono ?_
   rintro e w1 ⟨rfl, rfl⟩
   go_wp2
   refine bodyPost_ret (v := .tuple #[nodeV nodeZ, .bool false]) ?_ rfl ⟨rfl, ?_⟩
   ·
    simp [results, Tryd.results24, go_sem, hu4, z0, z1, z2]
   ·
    exact below_set (below_set (below_set HB1.out (Nat.le_refl _)) (Nat.le_refl _)) (Nat.le_refl _)
abbrev leafV (l : SLeaf) : Value := .agg #[.bool l.f0, .string l.f1, .string l.f2, .int .u64 l.f3.f0, .int .u64 l.f3.f1]
abbrev leafZ : SLeaf := ⟨false, ⟨#[]⟩, ⟨#[]⟩, ⟨0, 0⟩⟩
def leafAtI (T : STree) (p : Int) : SLeaf × Bool := (T.leaves.getD p.toNat leafZ, decide (p.toNat < T.leaves.length))
theorem below_set5 {w W : World} {g : Nat} (h : Below w.heap.size w W) (hg : w.heap.size ≤ g) (a b c d e : Value) : Below w.heap.size w (((((W.setCell ⟨g, 0, none⟩ a).setCell ⟨g, 1, none⟩ b).setCell ⟨g, 2, none⟩ c).setCell ⟨g, 3, none⟩ d).setCell ⟨g, 4, none⟩ e) := below_set (below_set (below_set (below_set (below_set h hg) hg) hg) hg) hg
set_option maxRecDepth 100000 in
set_option maxHeartbeats 1000000 in
theorem tLeaf.calls (a : Nat) (T : STree) (p : Int) (w : World) (h : TreeR a T w) (hp : 0 ≤ p) :
  Calls Tryd.prog 28 #[ptrT a, .int .u64 p] w fun e w' => e = .returned (.tuple #[leafV (leafAtI T p).1, .bool (leafAtI T p).2]) ∧ Below w.heap.size w w' := by
 have hu := Tryd.underlying105
 have hu4 := Tryd.underlying36
 obtain ⟨W1, hW1⟩ : ∃ V, V = w.alloc (.cells #[.bool false, .string ⟨#[]⟩, .string ⟨#[]⟩, .int .u64 0, .int .u64 0] 36) := ⟨_, rfl⟩
 have hb1 : Below w.heap.size w W1 := by rw [hW1]; exact below_alloc (Below.refl _ _) _
 have hz1 : W1.heap[w.heap.size]? = some (.cells #[.bool false, .string ⟨#[]⟩, .string ⟨#[]⟩, .int .u64 0, .int .u64 0] 36 (0, 0)) := by rw [hW1]; exact blk_new _ _
 have h1 := h.below hb1
 have q := aM' (tNone.calls a T W1 h1)
 obtain ⟨LA, cl, va, cv, hT⟩ := h1
 have h2 : W1.cell? ⟨a, 1, none⟩ = some (.slice LA T.leaves.length cl) := blk_cell hT.box 1
 have z0 : W1.cell? ⟨w.heap.size, 0, none⟩ = some (.bool false) := blk_cell hz1 0
 have z1 : W1.cell? ⟨w.heap.size, 1, none⟩ = some (.string ⟨#[]⟩) := blk_cell hz1 1
 have z2 : W1.cell? ⟨w.heap.size, 2, none⟩ = some (.string ⟨#[]⟩) := blk_cell hz1 2
 have z3 : W1.cell? ⟨w.heap.size, 3, none⟩ = some (.int .u64 0) := blk_cell hz1 3
 have z4 : W1.cell? ⟨w.heap.size, 4, none⟩ = some (.int .u64 0) := blk_cell hz1 4
 have zf : ∀ i, W1.frozen? ⟨w.heap.size, i, none⟩ = false := fun i => blk_frozen hz1 i
 have hlm := hT.lmax
 have HB1 := aM' hb1
 obtain ⟨k, rfl⟩ := Int.eq_ofNat_of_zero_le hp
 have hw : IntKind.u64.wrap ((T.leaves.length : Nat) : Int) = (T.leaves.length : Int) := wrapu64_id (by omega) (by omega)
 unfold leafAtI
 rw [Int.toNat_natCast]
 by_cases hk : k < T.leaves.length
 ·
  obtain ⟨a1, e1, p0, p1, p2, p3, p4⟩ := at_TLeaf hT.lread (k : Int) (by omega) (by omega)
  subst e1
  have e3 : rd_TLeaf T.leaves (k : Int) = T.leaves.getD k leafZ := by rw [rd_TLeaf, Int.toNat_natCast]; rfl
  rw [e3, Int.toNat_natCast] at p0 p1 p2 p3 p4
  generalize T.leaves.getD k leafZ = x at p0 p1 p2 p3 p4 ⊢
  have b0 : decide ((T.leaves.length : Int) ≤ (k : Int)) = false := decide_eq_false (by omega)
  have b1 : decide (T.leaves.length ≤ k) = false := decide_eq_false (by omega)
  have b2 : decide (k < T.leaves.length) = true := decide_eq_true hk
  rw [b2]
  clear e3 hT h hb1 hz1 hp
  go_enter Tryd.func28, Tryd.ntmps28
  go_wp2_with fail
  rw [← hW1]
  clear hW1
  refine q.out.mono ?_
  rintro e w1 ⟨rfl, rfl⟩
  go_wp2
  refine bodyPost_ret (v := .tuple #[leafV x, .bool true]) ?_ rfl ⟨rfl, ?_⟩
  ·
   simp [results, Tryd.results28, go_sem, hu4, z0, z1, z2, z3, z4]
  ·
   exact below_set5 HB1.out (Nat.le_refl _) _ _ _ _ _
 ·
  have b0 : decide ((T.leaves.length : Int) ≤ (k : Int)) = true := decide_eq_true (by omega)
  have b1 : decide (T.leaves.length ≤ k) = true := decide_eq_true (by omega)
  have b2 : decide (k < T.leaves.length) = false := decide_eq_false hk
  have e3 : T.leaves.getD k leafZ = leafZ := by simp [List.getD_eq_getElem?_getD, show T.leaves.length ≤ k by omega]
  rw [b2, e3]
  clear e3 hT h hb1 hz1 hp
  go_enter Tryd.func28, Tryd.ntmps28
  go_wp2_with fail
  rw [← hW1]
  clear hW1
  refine q.out.mono ?_
  rintro e w1 ⟨rfl, rfl⟩
  go_wp2
  refine bodyPost_ret (v := .tuple #[leafV leafZ, .bool false]) ?_ rfl ⟨rfl, ?_⟩
  ·
   simp [results, Tryd.results28, go_sem, hu4, z0, z1, z2, z3, z4]
  ·
   exact below_set5 HB1.out (Nat.le_refl _) _ _ _ _ _
theorem leafInfo : (Tryd.prog.info? 36).map (fun i => (i.zero, i.size, i.bytes)) = some (some (.agg #[.bool false, .string ⟨#[]⟩, .string ⟨#[]⟩, .int .u64 0, .int .u64 0]), 5, 56) := by kernel_rfl
def cellsL : List SLeaf → List Value
 | [] => []
 | x :: l => .bool x.f0 :: .string x.f1 :: .string x.f2 :: .int .u64 x.f3.f0 :: .int .u64 x.f3.f1 :: cellsL l
theorem cellsL_len : ∀ l, (cellsL l).length = l.length * 5
 | [] => rfl
 | x :: l => by simp [cellsL, cellsL_len l]; omega
theorem cellsL_get : ∀ (l : List SLeaf) (j i : Nat) (p : SLeaf), l[j]? = some p → i < 5 → (cellsL l)[j * 5 + i]? = [Value.bool p.f0, .string p.f1, .string p.f2, .int .u64 p.f3.f0, .int .u64 p.f3.f1][i]?
 | [], j, i, p, h, _ => by simp at h
 | x :: l, 0, i, p, h, hi => by
  obtain rfl := Option.some.inj h
  rw [cellsL, Nat.zero_mul, Nat.zero_add]
  match i, hi with
  | 0, _ => rfl
  | 1, _ => rfl
  | 2, _ => rfl
  | 3, _ => rfl
  | 4, _ => rfl
 | x :: l, j + 1, i, p, h, hi => by
  have h' : l[j]? = some p := by simpa using h
  rw [cellsL, show (j + 1) * 5 + i = (j * 5 + i) + 5 by omega]
  simp only [List.getElem?_cons_succ]
  exact cellsL_get l j i p h' hi
theorem oneL : ∀ l, ∀ u ∈ cellsL l, u.oneCell' = true
 | [], u, h => by cases h
 | x :: l, u, h => by
  simp only [cellsL, List.mem_cons] at h
  rcases h with rfl | rfl | rfl | rfl | rfl | h
  ·
   rfl
  ·
   rfl
  ·
   rfl
  ·
   rfl
  ·
   rfl
  ·
   exact oneL l u h
theorem ownLeaves_C {w : World} {base g n cap : Nat} {xs : List SLeaf} (h : w.ownsRow base 36 5 (.slice (some ⟨g, 0, none⟩) n cap) n (cellsL xs)) : xs.length = n ∧ n ≤ cap ∧ Kd.C kLeaf w (some ⟨g, 0, none⟩) n xs := by
 obtain ⟨hlen, h⟩ := h
 rw [cellsL_len] at hlen
 have hl : xs.length = n := by omega
 rcases h with ⟨h, _⟩ | ⟨g', cap', cur, hv, hb, hg, hcap, hmax, hsz, htk⟩
 ·
  cases h
 ·
  simp only [Value.slice.injEq, Option.some.injEq, Addr.mk.injEq] at hv
  obtain ⟨⟨rfl, -⟩, -, rfl⟩ := hv
  refine ⟨hl, hcap, hl, by unfold maxLen at hmax; omega, fun h0 => ⟨_, rfl, fun j p hj => ?_⟩⟩
  refine ⟨_, rfl, kLeaf_mk w p, fun i u hu => ?_⟩
  have hi : i < 5 := by
   rcases Nat.lt_or_ge i 5 with h | h
   ·
    exact h
   ·
    simp [h] at hu
  have hjn : j < xs.length := (List.getElem?_eq_some_iff.1 hj).1
  have e : kLeaf.sz = 5 := rfl
  have ea : ∀ n, (⟨g, 0, none⟩ : Addr).add n = ⟨g, n, none⟩ := fun n => by unfold Addr.add; split <;> simp_all
  rw [e, ea, blk_cell hg]
  have h1 := cellsL_get xs j i p hj hi
  rw [← htk, List.getElem?_take, if_pos (by omega)] at h1
  rw [hu] at h1
  simpa using h1
theorem leaves_news {W : World} {ad : Addr} {l : List SLeaf} (h : Kd.C kLeaf W (some ad) l.length l) : ∀ j u, (cellsL l)[j]? = some u → W.cell? (ad.add j) = some u := by
 intro j u hu
 have hj : j < l.length * 5 := by
  have := (List.getElem?_eq_some_iff.1 hu).1
  rwa [cellsL_len] at this
 obtain ⟨k, i, rfl, hi⟩ : ∃ k i, j = k * 5 + i ∧ i < 5 := ⟨j / 5, j % 5, by omega, Nat.mod_lt _ (by decide)⟩
 have hk : k < l.length := by omega
 rw [cellsL_get l k i l[k] (List.getElem?_eq_getElem hk) hi] at hu
 obtain ⟨a1, e1, p0, p1, p2, p3, p4⟩ := at_TLeaf h (k : Int) (by omega) (by omega)
 cases e1
 have e3 : rd_TLeaf l (k : Int) = l[k] := by rw [rd_TLeaf, Int.toNat_natCast]; simp [List.getD_eq_getElem?_getD, hk]
 rw [e3, Int.toNat_natCast] at p0 p1 p2 p3 p4
 match i, hi with
 | 0, _ => simp at hu; rw [← hu]; exact p0
 | 1, _ => simp at hu; rw [← hu, add_field _ _ 1 (by omega)]; exact p1
 | 2, _ => simp at hu; rw [← hu, add_field _ _ 2 (by omega)]; exact p2
 | 3, _ => simp at hu; rw [← hu, add_field _ _ 3 (by omega)]; exact p3
 | 4, _ => simp at hu; rw [← hu, add_field _ _ 4 (by omega)]; exact p4
set_option maxRecDepth 100000 in
theorem cloneL.calls (ad : Addr) (c : Nat) (l : List SLeaf) (w : World) (hr : Kd.C kLeaf w (some ad) l.length l) (hl : 1 ≤ l.length) (hm : l.length ≤ 1024) :
  Calls Tryd.prog 57 #[.slice (some ad) l.length c] w fun e w' => ∃ g cap, e = .returned (.slice (some ⟨g, 0, none⟩) l.length cap) ∧ w'.ownsRow w.heap.size 36 5 (.slice (some ⟨g, 0, none⟩) l.length cap) l.length (cellsL l) ∧ Below w.heap.size w w' ∧ g < w'.heap.size := by
 obtain ⟨i0, hi, hz0, hz1, hz2⟩ := info_parts leafInfo
 have HR := aM' hr
 have HM := aM' hm
 have HL := aM' hl
 clear hr hm hl
 have hu := Tryd.underlying22
 have qT : ∀ wx : World, (binOp .eql 22 (.slice (some ad) l.length c) (.slice none 0 0)).run Tryd.prog wx = .ok (.bool false) wx := fun wx => Lib.run_eql_slice_nil wx _ _ _ _ _ _ _ hu
 go_enter Tryd.func57, Tryd.ntmps57
 go_wp2_with (at_builtin; refine wpList_append_own _ rfl _ _ 22 rfl w.heap.size 36 i0 (.agg #[.bool false, .string ⟨#[]⟩, .string ⟨#[]⟩, .int .u64 0, .int .u64 0]) 5 56 Tryd.underlying22 hi hz0 hz1 hz2 rfl (by decide) _ 0 [] rfl (World.ownsRow_made w #[] 0 (Nat.le_refl _) (by decide) rfl) ad l.length c (cellsL l) rfl (cellsL_len l) ?c2 ?c3 ?c4 ?c5 ?c6 ?_)
 case c2 => exact leaves_news (Kd.C_below HR.out (below_alloc (Below.refl _ _) _))
 case c3 => exact oneL l
 case c4 => have := HM.out; unfold maxLen; omega
 case c5 => have := HM.out; omega
 case c6 => simp
 intro v' w' hown hgr hnil
 obtain ⟨g, cap, rfl, -, hg⟩ := hown.form HL.out
 have HO := aM' hown
 have HG := aM' hgr
 have HL2 := aM' hg
 clear hown hgr hnil hg
 go_wp2
 go_ret
 refine ⟨g, cap, rfl, HO.out, ?_, HL2.out⟩
 have hb := HG.out
 refine ⟨hb.os, hb.tape, hb.output, Nat.le_trans (by simp) hb.size, fun i hi => ?_⟩
 have h1 := hb.block i (by simp; omega) (by intro e; have := Option.some.inj e; dsimp only at this; omega)
 rw [h1]
 exact (below_alloc (Below.refl w.heap.size w) (.cells #[] 36)).block i hi
attribute [local go_sem] sel_true
def topI (T : STree) : SNode := (T.rows.getD (T.rows.length - 1) []).headD nodeZ
abbrev rootV (T : STree) : Value := .agg #[.string (topI T).f0, .int .u64 (topI T).f1.f0, .int .u64 (topI T).f1.f1, .int .i64 ((T.rows.length : Int) - 1)]
structure TrS (w0 W : World) (x : SNode) (l : Nat → Bool) (γ : Nat) : Prop where
 hB : Below w0.heap.size w0 W
 hg : l 12 = true → w0.heap.size ≤ γ ∧ W.heap[γ]? = some (.cells (if l 13 = true then #[.string x.f0, .int .u64 x.f1.f0, .int .u64 x.f1.f1] else #[.string ⟨#[]⟩, .int .u64 0, .int .u64 0]) 46 (0, 0))
 ho : l 13 = true → l 12 = true
theorem TrS.alloc {w0 W : World} {x : SNode} {l : Nat → Bool} {γ : Nat} (h : TrS w0 W x l γ) (hl : l 12 = false) : TrS w0 (W.alloc (.cells #[.string ⟨#[]⟩, .int .u64 0, .int .u64 0] 46 (0, 0))) x (upd l 12) W.heap.size := by
 have h13 : l 13 = false := by
  cases hx : l 13 with
  | false => rfl
  | true => rw [h.ho hx] at hl; cases hl
 have e2 : upd l 12 13 = l 13 := rfl
 refine ⟨below_alloc h.hB _, ?_, ?_⟩
 ·
  rw [e2, h13]; exact fun _ => ⟨h.hB.size, blk_new W _⟩
 ·
  exact fun _ => rfl
theorem put3z {W : World} {g : Nat} {z : SNode} (h : W.heap[g]? = some (.cells #[.string z.f0, .int .u64 z.f1.f0, .int .u64 z.f1.f1] 46 (0, 0))) (x : SNode) : (((W.setCell ⟨g, 0, none⟩ (.string x.f0)).setCell ⟨g, 1, none⟩ (.int .u64 x.f1.f0)).setCell ⟨g, 2, none⟩ (.int .u64 x.f1.f1)).heap[g]? = some (.cells #[.string x.f0, .int .u64 x.f1.f0, .int .u64 x.f1.f1] 46 (0, 0)) :=
 blk_put (cs' := #[.string x.f0, .int .u64 x.f1.f0, .int .u64 x.f1.f1]) (blk_put (cs' := #[.string x.f0, .int .u64 x.f1.f0, .int .u64 z.f1.f1]) (blk_put (cs' := #[.string x.f0, .int .u64 z.f1.f0, .int .u64 z.f1.f1]) h 0 (.string x.f0) rfl) 1 (.int .u64 x.f1.f0) rfl) 2 (.int .u64 x.f1.f1) rfl
theorem TrS.store {w0 W : World} {x : SNode} {l : Nat → Bool} {γ : Nat} (h : TrS w0 W x l γ) (ha : l 12 = true) (hl : l 13 = false) : TrS w0 (((W.setCell ⟨γ, 0, none⟩ (.string x.f0)).setCell ⟨γ, 1, none⟩ (.int .u64 x.f1.f0)).setCell ⟨γ, 2, none⟩ (.int .u64 x.f1.f1)) x (upd l 13) γ := by
 obtain ⟨h1, h2⟩ := h.hg ha
 rw [hl, if_neg (by decide)] at h2
 refine ⟨below_set (below_set (below_set h.hB h1) h1) h1, ?_, fun _ => ha⟩
 exact fun _ => ⟨h1, put3z (z := ⟨⟨#[]⟩, ⟨0, 0⟩⟩) h2 x⟩
theorem TrS.other {w0 W W' : World} {x : SNode} {l : Nat → Bool} {γ : Nat} (h : TrS w0 W x l γ) (i : Nat) (hi : i ≠ 12) (hi2 : i ≠ 13) (hb : Below W.heap.size W W') : TrS w0 W' x (upd l i) γ := by
 have e1 : upd l i 12 = l 12 := by unfold upd; rw [if_neg (fun e => hi e.symm)]
 have e2 : upd l i 13 = l 13 := by unfold upd; rw [if_neg (fun e => hi2 e.symm)]
 refine ⟨h.hB.trans (hb.mono h.hB.size), ?_, ?_⟩
 ·
  rw [e1, e2]; exact fun hl => ⟨(h.hg hl).1, blk_below (h.hg hl).2 hb⟩
 ·
  rw [e1, e2]; exact h.ho
structure TrS4 (w W1 W2 W : World) (x : SNode) (m : Int) (l : Nat → Bool) : Prop where
 hB : l 7 = false → Below W1.heap.size W1 W
 hC : l 7 = false → Below W2.heap.size W2 W
 hz : W.heap[w.heap.size]? = some (.cells (if l 7 = true then #[.string x.f0, .int .u64 x.f1.f0, .int .u64 x.f1.f1, .int .i64 m] else #[.string ⟨#[]⟩, .int .u64 0, .int .u64 0, .int .i64 0]) 41 (0, 0))
 hD : Below w.heap.size w W
 ho : l 7 = true → ∀ i, i < 7 → l i = true
theorem TrS4.no {w W1 W2 W : World} {x : SNode} {m : Int} {l : Nat → Bool} (h : TrS4 w W1 W2 W x m l) {i : Nat} (hi : i < 7) (hl : l i = false) : l 7 = false := by
 cases h7 : l 7 with
 | false => rfl
 | true => rw [h.ho h7 i hi] at hl; cases hl
theorem TrS4.other {w W1 W2 W : World} {x : SNode} {m : Int} {l : Nat → Bool} (h : TrS4 w W1 W2 W x m l) (i : Nat) (hi : i < 7) (hl : l i = false) : TrS4 w W1 W2 W x m (upd l i) := by
 have h7 := h.no hi hl
 have e : upd l i 7 = l 7 := by unfold upd; rw [if_neg (by omega)]
 refine ⟨fun _ => h.hB h7, fun _ => h.hC h7, by rw [e]; exact h.hz, h.hD, fun h' => by rw [e, h7] at h'; cases h'⟩
theorem TrS4.store {w W1 W2 W : World} {x : SNode} {m : Int} {l : Nat → Bool} (h : TrS4 w W1 W2 W x m l) (h7 : l 7 = false) (ha : ∀ i, i < 7 → l i = true) :
  TrS4 w W1 W2 ((((W.setCell ⟨w.heap.size, 0, none⟩ (.string x.f0)).setCell ⟨w.heap.size, 1, none⟩ (.int .u64 x.f1.f0)).setCell ⟨w.heap.size, 2, none⟩ (.int .u64 x.f1.f1)).setCell ⟨w.heap.size, 3, none⟩ (.int .i64 m)) x m (upd l 7) := by
 have hz := h.hz
 rw [h7, if_neg (by decide)] at hz
 have e : upd l 7 7 = true := rfl
 refine ⟨(fun h' => by rw [e] at h'; cases h'), (fun h' => by rw [e] at h'; cases h'), ?_, below_set (below_set (below_set (below_set h.hD (Nat.le_refl _)) (Nat.le_refl _)) (Nat.le_refl _)) (Nat.le_refl _), fun _ i hi => by unfold upd; rw [if_neg (by omega)]; exact ha i hi⟩
 rw [e, if_pos rfl]
 exact blk_put (cs' := #[.string x.f0, .int .u64 x.f1.f0, .int .u64 x.f1.f1, .int .i64 m]) (blk_put (cs' := #[.string x.f0, .int .u64 x.f1.f0, .int .u64 x.f1.f1, .int .i64 0]) (blk_put (cs' := #[.string x.f0, .int .u64 x.f1.f0, .int .u64 0, .int .i64 0]) (blk_put (cs' := #[.string x.f0, .int .u64 0, .int .u64 0, .int .i64 0]) hz 0 (.string x.f0) rfl) 1 (.int .u64 x.f1.f0) rfl) 2 (.int .u64 x.f1.f1) rfl) 3 (.int .i64 m) rfl
set_option maxRecDepth 100000 in
set_option maxHeartbeats 1000000 in
theorem tRoot.calls (gt : Nat) (T : STree) (w : World) (h : TreeR gt T w) : Calls Tryd.prog 21 #[ptrT gt] w fun e w' => e = .returned (rootV T) ∧ Below w.heap.size w w' := by
 have hu := Tryd.underlying105
 have hu2 := Tryd.underlying109
 have hu3 := Tryd.underlying107
 have hu4 := Tryd.underlying46
 have hu5 := Tryd.underlying41
 have hT := h
 obtain ⟨W1, hW1⟩ : ∃ V, V = w.alloc (.cells #[.string ⟨#[]⟩, .int .u64 0, .int .u64 0, .int .i64 0] 41) := ⟨_, rfl⟩
 have hb1 : Below w.heap.size w W1 := by rw [hW1]; exact below_alloc (Below.refl _ _) _
 have hz1 : W1.heap[w.heap.size]? = some (.cells #[.string ⟨#[]⟩, .int .u64 0, .int .u64 0, .int .i64 0] 41 (0, 0)) := by rw [hW1]; exact blk_new _ _
 have h1 := h.below hb1
 have HT1 := aM' h1
 have HB1 := aM' hb1
 have HZ1 := aM' hz1
 obtain ⟨LA, cl, va, cv, hA⟩ := h1
 have hv1 := hA.vmin
 have hv2 := hA.vmax
 obtain ⟨ra, rc, c0, -, hrc, hrd, hl1, hl2⟩ := hA.rows (T.rows.length - 1) (by omega)
 have hbx := blk_cell hA.box 2
 obtain ⟨m, hm⟩ : ∃ m, T.rows.length = m + 1 := ⟨T.rows.length - 1, by omega⟩
 have ht : topI T = (T.rows[T.rows.length - 1]'(by omega)).headD nodeZ := by unfold topI; congr 1; simp [List.getD_eq_getElem?_getD, show T.rows.length - 1 < T.rows.length by omega]
 generalize T.rows[T.rows.length - 1]'(by omega) = lr at c0 hrc hrd hl1 hl2 ht
 rw [hm, Nat.add_sub_cancel] at c0
 rw [hm] at hbx hv2
 simp at hbx
 unfold rootV
 generalize topI T = x at ht ⊢
 have hm1 : ((T.rows.length : Int) - 1) = (m : Int) := by omega
 rw [hm1]
 obtain ⟨a1, e1, p0, p1, p2⟩ := at_TNode hrd 0 (by omega) (by omega)
 cases e1
 have e3 : rd_TNode lr 0 = x := by rw [ht]; cases lr with | nil => rfl | cons y l => rfl
 rw [e3] at p0 p1 p2
 have ea : ra.add (Int.toNat 0 * 3) = ra := by cases ra; simp [Addr.add]
 rw [ea] at p0 p1 p2
 have HC0 := aM' c0
 have HBX := aM' hbx
 have HP := aM' (And.intro p0 (And.intro p1 p2))
 have HH : Aside0 (∀ W : World, Below W1.heap.size W1 W → Calls Tryd.prog 19 #[ptrT gt] W fun e w' => e = .returned (.int .i64 (m : Int)) ∧ W = w') := ⟨fun W hb => by
  have q := tHeight.calls gt T W (HT1.out.below hb)
  rw [hm1] at q
  exact q⟩
 have q := aM' (tNone.calls gt T W1 HT1.out)
 generalize hL : lr.length = L at *
 clear h hT hb1 hz1 hA c0 hbx p0 p1 p2 hrd e3 ht hm1 hm hv1
 go_enter Tryd.func21, Tryd.ntmps21
 go_wp2_with fail
 rw [← hW1]
 clear hW1
 refine q.out.mono ?_
 rintro e w1 ⟨rfl, rfl⟩
 go_upto_region 3 with (fail)
 refine region_inv (fun l a W => ∃ γ : Nat, a = ({ tmps := #[ptrT gt, undef, .pointer (some ⟨w.heap.size, 0, none⟩), sel (l 12) (.pointer (some ⟨γ, 0, none⟩)) (undef), ptrT gt, .bool false, undef, sel (l 0) (ptrT gt) (undef), sel (l 1) (ptrT gt) (undef), sel (l 2) (.pointer (some ⟨gt, 2, none⟩)) (undef), sel (l 3) (.slice (some va) (m + 1) cv) (undef), sel (l 4) (ptrT gt) (undef), sel (l 5) (.int .i64 (m : Int)) (undef), sel (l 6) (.pointer (some (va.add (m * 2)))) (undef), sel (l 7) (.pointer (some (va.add (m * 2)))) (undef), sel (l 8) (.pointer (some (va.add (m * 2)))) (undef), sel (l 9) (.slice (some ra) L rc) (undef), sel (l 10) (.pointer (some ra)) (undef), sel (l 11) (.agg #[.string x.f0, .int .u64 x.f1.f0, .int .u64 x.f1.f1]) (undef), undef, undef, undef, undef, undef, undef, undef], defers := [] } : Act) ∧ TrS W1 W x l γ) 14 rfl rfl (by kernel_rfl) ?h0 ?hend ?hstep
 case h0 => exact ⟨0, rfl, below_drew (Below.refl _ _), (fun h => by cases h), (fun h => by cases h)⟩
 case hstep =>
  refine rg_cons (rg_cons (rg_cons (rg_cons (rg_cons (rg_cons (rg_cons (rg_cons (rg_cons (rg_cons (rg_cons (rg_cons (rg_cons (rg_cons (rg_nil) ?s0) ?s1) ?s2) ?s3) ?s4) ?s5) ?s6) ?s7) ?s8) ?s9) ?s10) ?s11) ?s12) ?s13
  case s0 =>
   refine rg_step rfl ?_
   rintro l a W ⟨γ, rfl, hI⟩ hl hd
   clear hd
   refine rg_val (v := ptrT gt) (w' := W) rfl (by go_simp) ?_
   refine ⟨γ, ?_, ?_⟩
   ·
    simp only [Act.put, List.setIfInBounds_toArray, List.set_cons_zero, List.set_cons_succ]; rfl
   ·
    exact hI.other 0 (by decide) (by decide) (Below.refl _ _)
  case s1 =>
   refine rg_step rfl ?_
   rintro l a W ⟨γ, rfl, hI⟩ hl hd
   have d0 := hd 0 (by decide)
   clear hd
   refine rg_val (v := ptrT gt) (w' := W) rfl (by go_simp) ?_
   refine ⟨γ, ?_, ?_⟩
   ·
    simp only [Act.put, List.setIfInBounds_toArray, List.set_cons_zero, List.set_cons_succ]; rfl
   ·
    exact hI.other 1 (by decide) (by decide) (Below.refl _ _)
  case s2 =>
   refine rg_step rfl ?_
   rintro l a W ⟨γ, rfl, hI⟩ hl hd
   have d1 := hd 1 (by decide)
   clear hd
   refine rg_val (v := .pointer (some ⟨gt, 2, none⟩)) (w' := W) rfl (by go_simp) ?_
   refine ⟨γ, ?_, ?_⟩
   ·
    simp only [Act.put, List.setIfInBounds_toArray, List.set_cons_zero, List.set_cons_succ]; rfl
   ·
    exact hI.other 2 (by decide) (by decide) (Below.refl _ _)
  case s3 =>
   refine rg_step rfl ?_
   rintro l a W ⟨γ, rfl, hI⟩ hl hd
   have d2 := hd 2 (by decide)
   clear hd
   have x0 := pw_cell_below hI.hB HBX.out
   refine rg_val (v := .slice (some va) (m + 1) cv) (w' := W) rfl (by go_simp) ?_
   refine ⟨γ, ?_, ?_⟩
   ·
    simp only [Act.put, List.setIfInBounds_toArray, List.set_cons_zero, List.set_cons_succ]; rfl
   ·
    exact hI.other 3 (by decide) (by decide) (Below.refl _ _)
  case s4 =>
   refine rg_step rfl ?_
   rintro l a W ⟨γ, rfl, hI⟩ hl hd
   clear hd
   refine rg_val (v := ptrT gt) (w' := W) rfl (by go_simp) ?_
   refine ⟨γ, ?_, ?_⟩
   ·
    simp only [Act.put, List.setIfInBounds_toArray, List.set_cons_zero, List.set_cons_succ]; rfl
   ·
    exact hI.other 4 (by decide) (by decide) (Below.refl _ _)
  case s5 =>
   refine rg_step rfl ?_
   rintro l a W ⟨γ, rfl, hI⟩ hl hd
   have d4 := hd 4 (by decide)
   clear hd
   refine rg_call rfl (by go_simp; exact ⟨rfl, rfl⟩) ?_
   refine (HH.out W hI.hB).mono ?_
   rintro x W' ⟨rfl, rfl⟩
   refine ⟨_, rfl, γ, ?_, ?_⟩
   ·
    simp only [Act.put, List.setIfInBounds_toArray, List.set_cons_zero, List.set_cons_succ]; rfl
   ·
    exact hI.other 5 (by decide) (by decide) (Below.refl _ _)
  case s6 =>
   refine rg_step rfl ?_
   rintro l a W ⟨γ, rfl, hI⟩ hl hd
   have d3 := hd 3 (by decide)
   have d5 := hd 5 (by decide)
   clear hd
   refine rg_val (v := .pointer (some (va.add (m * 2)))) (w' := W) rfl (by go_simp; intro h; omega) ?_
   refine ⟨γ, ?_, ?_⟩
   ·
    simp only [Act.put, List.setIfInBounds_toArray, List.set_cons_zero, List.set_cons_succ]; rfl
   ·
    exact hI.other 6 (by decide) (by decide) (Below.refl _ _)
  case s7 =>
   refine rg_step rfl ?_
   rintro l a W ⟨γ, rfl, hI⟩ hl hd
   have d6 := hd 6 (by decide)
   clear hd
   refine rg_val (v := .pointer (some (va.add (m * 2)))) (w' := W) rfl (by go_simp) ?_
   refine ⟨γ, ?_, ?_⟩
   ·
    simp only [Act.put, List.setIfInBounds_toArray, List.set_cons_zero, List.set_cons_succ]; rfl
   ·
    exact hI.other 7 (by decide) (by decide) (Below.refl _ _)
  case s8 =>
   refine rg_step rfl ?_
   rintro l a W ⟨γ, rfl, hI⟩ hl hd
   have d7 := hd 7 (by decide)
   clear hd
   refine rg_val (v := .pointer (some (va.add (m * 2)))) (w' := W) rfl (by go_simp) ?_
   refine ⟨γ, ?_, ?_⟩
   ·
    simp only [Act.put, List.setIfInBounds_toArray, List.set_cons_zero, List.set_cons_succ]; rfl
   ·
    exact hI.other 8 (by decide) (by decide) (Below.refl _ _)
  case s9 =>
   refine rg_step rfl ?_
   rintro l a W ⟨γ, rfl, hI⟩ hl hd
   have d8 := hd 8 (by decide)
   clear hd
   have x0 := pw_cell_below hI.hB HC0.out
   refine rg_val (v := .slice (some ra) L rc) (w' := W) rfl (by go_simp) ?_
   refine ⟨γ, ?_, ?_⟩
   ·
    simp only [Act.put, List.setIfInBounds_toArray, List.set_cons_zero, List.set_cons_succ]; rfl
   ·
    exact hI.other 9 (by decide) (by decide) (Below.refl _ _)
  case s10 =>
   refine rg_step rfl ?_
   rintro l a W ⟨γ, rfl, hI⟩ hl hd
   have d9 := hd 9 (by decide)
   clear hd
   refine rg_val (v := .pointer (some ra)) (w' := W) rfl (by go_simp; intro h; omega) ?_
   refine ⟨γ, ?_, ?_⟩
   ·
    simp only [Act.put, List.setIfInBounds_toArray, List.set_cons_zero, List.set_cons_succ]; rfl
   ·
    exact hI.other 10 (by decide) (by decide) (Below.refl _ _)
  case s11 =>
   refine rg_step rfl ?_
   rintro l a W ⟨γ, rfl, hI⟩ hl hd
   have d10 := hd 10 (by decide)
   clear hd
   have x0 := pw_cell_below hI.hB HP.out.1
   have x1 := pw_cell_below hI.hB HP.out.2.1
   have x2 := pw_cell_below hI.hB HP.out.2.2
   refine rg_val (v := .agg #[.string x.f0, .int .u64 x.f1.f0, .int .u64 x.f1.f1]) (w' := W) rfl (by go_simp) ?_
   refine ⟨γ, ?_, ?_⟩
   ·
    simp only [Act.put, List.setIfInBounds_toArray, List.set_cons_zero, List.set_cons_succ]; rfl
   ·
    exact hI.other 11 (by decide) (by decide) (Below.refl _ _)
  case s12 =>
   refine rg_step rfl ?_
   rintro l a W ⟨γ, rfl, hI⟩ hl hd
   clear hd
   refine rg_val (v := .pointer (some ⟨W.heap.size, 0, none⟩)) (w' := W.alloc (.cells #[.string ⟨#[]⟩, .int .u64 0, .int .u64 0] 46 (0, 0))) rfl (by go_simp) ?_
   refine ⟨W.heap.size, ?_, ?_⟩
   ·
    simp only [Act.put, List.setIfInBounds_toArray, List.set_cons_zero, List.set_cons_succ]; rfl
   ·
    exact hI.alloc hl
  case s13 =>
   refine rg_step rfl ?_
   rintro l a W ⟨γ, rfl, hI⟩ hl hd
   have d11 := hd 11 (by decide)
   have d12 := hd 12 (by decide)
   clear hd
   have hg := (hI.hg d12).2
   rw [show l 13 = false from hl, if_neg (by decide)] at hg
   have y0 := blk_cell hg 0
   have y1 := blk_cell hg 1
   have y2 := blk_cell hg 2
   have yf := fun i => blk_frozen hg i
   simp at y0 y1 y2
   refine rg_skip rfl (by go_simp; rfl) ?_
   refine ⟨γ, ?_, ?_⟩
   ·
    simp only [Act.put, List.setIfInBounds_toArray, List.set_cons_zero, List.set_cons_succ]; rfl
   ·
    exact hI.store d12 hl
 case hend =>
  rintro l a W ⟨γ, rfl, hI⟩ hall
  have e0 := hall 0 (by decide)
  have e1 := hall 1 (by decide)
  have e2 := hall 2 (by decide)
  have e3 := hall 3 (by decide)
  have e4 := hall 4 (by decide)
  have e5 := hall 5 (by decide)
  have e6 := hall 6 (by decide)
  have e7 := hall 7 (by decide)
  have e8 := hall 8 (by decide)
  have e9 := hall 9 (by decide)
  have e10 := hall 10 (by decide)
  have e11 := hall 11 (by decide)
  have e12 := hall 12 (by decide)
  have e13 := hall 13 (by decide)
  clear hall
  have hn := hI.hg e12
  rw [if_pos e13] at hn
  obtain ⟨hn0, hn1⟩ := hn
  simp only [e0, e1, e2, e3, e4, e5, e6, e7, e8, e9, e10, e11, e12, e13, sel_true]
  clear e0 e1 e2 e3 e4 e5 e6 e7 e8 e9 e10 e11 e12 e13
  have hB2 := hI.hB
  have HN := aM' hn1
  have HN0 := aM' hn0
  have HB2 := aM' hB2
  clear hI hn0 hn1 hB2
  go_upto_region 4 with (fail)
  obtain ⟨W2, rfl⟩ : ∃ V, V = W := ⟨_, rfl⟩
  refine region_inv (fun l a W => a = ({ tmps := #[ptrT gt, undef, .pointer (some ⟨w.heap.size, 0, none⟩), .pointer (some ⟨γ, 0, none⟩), ptrT gt, .bool false, undef, ptrT gt, ptrT gt, .pointer (some ⟨gt, 2, none⟩), .slice (some va) (m + 1) cv, ptrT gt, .int .i64 (m : Int), .pointer (some (va.add (m * 2))), .pointer (some (va.add (m * 2))), .pointer (some (va.add (m * 2))), .slice (some ra) L rc, .pointer (some ra), .agg #[.string x.f0, .int .u64 x.f1.f0, .int .u64 x.f1.f1], sel (l 0) (.pointer (some ⟨γ, 0, none⟩)) (undef), sel (l 1) (.string x.f0) (undef), sel (l 2) (.pointer (some ⟨γ, 1, none⟩)) (undef), sel (l 3) (.agg #[.int .u64 x.f1.f0, .int .u64 x.f1.f1]) (undef), sel (l 4) (ptrT gt) (undef), sel (l 5) (.int .i64 (m : Int)) (undef), sel (l 6) (.agg #[.string x.f0, .int .u64 x.f1.f0, .int .u64 x.f1.f1, .int .i64 (m : Int)]) (undef)], defers := [] } : Act) ∧ TrS4 w W1 W2 W x (m : Int) l) 8 rfl rfl (by kernel_rfl) ?h0 ?hend ?hstep
  case h0 => exact ⟨rfl, ⟨fun _ => HB2.out.trans ((below_drew (Below.refl _ _)).mono HB2.out.size), fun _ => below_drew (Below.refl _ _), by rw [if_neg (by decide)]; exact blk_below HZ1.out (HB2.out.trans ((below_drew (Below.refl _ _)).mono HB2.out.size)), HB1.out.trans ((HB2.out.trans ((below_drew (Below.refl _ _)).mono HB2.out.size)).mono HB1.out.size), fun h => by cases h⟩⟩
  case hstep =>
   refine rg_cons (rg_cons (rg_cons (rg_cons (rg_cons (rg_cons (rg_cons (rg_cons (rg_nil) ?s0) ?s1) ?s2) ?s3) ?s4) ?s5) ?s6) ?s7
   case s0 =>
    refine rg_step rfl ?_
    rintro l a W ⟨rfl, hI⟩ hl hd
    clear hd
    refine rg_val (v := .pointer (some ⟨γ, 0, none⟩)) (w' := W) rfl (by go_simp) ?_
    refine ⟨?_, ?_⟩
    ·
     simp only [Act.put, List.setIfInBounds_toArray, List.set_cons_zero, List.set_cons_succ]; rfl
    ·
     exact hI.other 0 (by decide) hl
   case s1 =>
    refine rg_step rfl ?_
    rintro l a W ⟨rfl, hI⟩ hl hd
    have d0 := hd 0 (by decide)
    clear hd
    have hb := hI.hC (hI.no (show 1 < 7 by decide) hl)
    have y0 := blk_cell (blk_below HN.out hb) 0
    have y1 := blk_cell (blk_below HN.out hb) 1
    have y2 := blk_cell (blk_below HN.out hb) 2
    simp at y0 y1 y2
    refine rg_val (v := .string x.f0) (w' := W) rfl (by go_simp) ?_
    refine ⟨?_, ?_⟩
    ·
     simp only [Act.put, List.setIfInBounds_toArray, List.set_cons_zero, List.set_cons_succ]; rfl
    ·
     exact hI.other 1 (by decide) hl
   case s2 =>
    refine rg_step rfl ?_
    rintro l a W ⟨rfl, hI⟩ hl hd
    clear hd
    refine rg_val (v := .pointer (some ⟨γ, 1, none⟩)) (w' := W) rfl (by go_simp) ?_
    refine ⟨?_, ?_⟩
    ·
     simp only [Act.put, List.setIfInBounds_toArray, List.set_cons_zero, List.set_cons_succ]; rfl
    ·
     exact hI.other 2 (by decide) hl
   case s3 =>
    refine rg_step rfl ?_
    rintro l a W ⟨rfl, hI⟩ hl hd
    have d2 := hd 2 (by decide)
    clear hd
    have hb := hI.hC (hI.no (show 3 < 7 by decide) hl)
    have y0 := blk_cell (blk_below HN.out hb) 0
    have y1 := blk_cell (blk_below HN.out hb) 1
    have y2 := blk_cell (blk_below HN.out hb) 2
    simp at y0 y1 y2
    refine rg_val (v := .agg #[.int .u64 x.f1.f0, .int .u64 x.f1.f1]) (w' := W) rfl (by go_simp) ?_
    refine ⟨?_, ?_⟩
    ·
     simp only [Act.put, List.setIfInBounds_toArray, List.set_cons_zero, List.set_cons_succ]; rfl
    ·
     exact hI.other 3 (by decide) hl
   case s4 =>
    refine rg_step rfl ?_
    rintro l a W ⟨rfl, hI⟩ hl hd
    clear hd
    refine rg_val (v := ptrT gt) (w' := W) rfl (by go_simp) ?_
    refine ⟨?_, ?_⟩
    ·
     simp only [Act.put, List.setIfInBounds_toArray, List.set_cons_zero, List.set_cons_succ]; rfl
    ·
     exact hI.other 4 (by decide) hl
   case s5 =>
    refine rg_step rfl ?_
    rintro l a W ⟨rfl, hI⟩ hl hd
    have d4 := hd 4 (by decide)
    clear hd
    refine rg_call rfl (by go_simp; exact ⟨rfl, rfl⟩) ?_
    refine (HH.out W (hI.hB (hI.no (show 5 < 7 by decide) hl))).mono ?_
    rintro x W' ⟨rfl, rfl⟩
    refine ⟨_, rfl, ?_, ?_⟩
    ·
     simp only [Act.put, List.setIfInBounds_toArray, List.set_cons_zero, List.set_cons_succ]; rfl
    ·
     exact hI.other 5 (by decide) hl
   case s6 =>
    refine rg_step rfl ?_
    rintro l a W ⟨rfl, hI⟩ hl hd
    have d1 := hd 1 (by decide)
    have d3 := hd 3 (by decide)
    have d5 := hd 5 (by decide)
    clear hd
    refine rg_val (v := .agg #[.string x.f0, .int .u64 x.f1.f0, .int .u64 x.f1.f1, .int .i64 (m : Int)]) (w' := W) rfl (by go_simp) ?_
    refine ⟨?_, ?_⟩
    ·
     simp only [Act.put, List.setIfInBounds_toArray, List.set_cons_zero, List.set_cons_succ]; rfl
    ·
     exact hI.other 6 (by decide) hl
   case s7 =>
    refine rg_step rfl ?_
    rintro l a W ⟨rfl, hI⟩ hl hd
    have d0 := hd 0 (by decide)
    have d1 := hd 1 (by decide)
    have d2 := hd 2 (by decide)
    have d3 := hd 3 (by decide)
    have d4 := hd 4 (by decide)
    have d5 := hd 5 (by decide)
    have d6 := hd 6 (by decide)
    clear hd
    have hz := hI.hz
    rw [show l 7 = false from hl, if_neg (by decide)] at hz
    have z0 := blk_cell hz 0
    have z1 := blk_cell hz 1
    have z2 := blk_cell hz 2
    have z3 := blk_cell hz 3
    have zf := fun i => blk_frozen hz i
    simp at z0 z1 z2 z3
    refine rg_skip rfl (by go_simp; rfl) ?_
    refine ⟨?_, ?_⟩
    ·
     simp only [Act.put, List.setIfInBounds_toArray, List.set_cons_zero, List.set_cons_succ]; rfl
    ·
     exact hI.store hl (fun i hi => by match i, hi with | 0, _ => exact d0 | 1, _ => exact d1 | 2, _ => exact d2 | 3, _ => exact d3 | 4, _ => exact d4 | 5, _ => exact d5 | 6, _ => exact d6)
  case hend =>
   rintro l a W ⟨rfl, hI⟩ hall
   have e0 := hall 0 (by decide)
   have e1 := hall 1 (by decide)
   have e2 := hall 2 (by decide)
   have e3 := hall 3 (by decide)
   have e4 := hall 4 (by decide)
   have e5 := hall 5 (by decide)
   have e6 := hall 6 (by decide)
   have e7 := hall 7 (by decide)
   clear hall
   have hx7 := e7
   simp only [e0, e1, e2, e3, e4, e5, e6, e7, sel_true]
   clear e0 e1 e2 e3 e4 e5 e6 e7
   have hz := hI.hz
   rw [if_pos hx7] at hz
   have z0 := blk_cell hz 0
   have z1 := blk_cell hz 1
   have z2 := blk_cell hz 2
   have z3 := blk_cell hz 3
   simp at z0 z1 z2 z3
   have HBF := aM' hI.hD
   clear hI hz hx7
   go_wp2
   refine bodyPost_ret (v := .agg #[.string x.f0, .int .u64 x.f1.f0, .int .u64 x.f1.f1, .int .i64 (m : Int)]) ?_ rfl ⟨rfl, HBF.out⟩
   simp [results, Tryd.results21, go_sem, hu5, z0, z1, z2, z3]
end Go.Proofs.YtfcodmdckcihmaaDoor.P
namespace Go.Proofs.YtfcodmdckcihmaaDoor.P
open Go.RowKit Go.Proofs.YtfcodmdckcihmaaDoorW.PrintWords Go.Proofs.YtfcodmdckcihmaaDoorW.PrintLast Go.Proofs.YtfcodmdckcihmaaDoorW.PrintMore
set_option linter.unusedVariables false
set_option linter.unusedSimpArgs false
set_option linter.unnecessarySimpa false
def levelsV (w : Int) : Nat → List SNode → List (List SNode)
 | 0, l => [l]
 | k + 1, l => l :: levelsV w k (pairsV w l)
theorem levelsV_len (w : Int) : ∀ k l, (levelsV w k l).length = k + 1
 | 0, _ => rfl
 | k + 1, l => by rw [levelsV, List.length_cons, levelsV_len w k]
def upV (w : Int) : Nat → List SNode → List SNode
 | 0, l => l
 | n + 1, l => upV w n (pairsV w l)
theorem upV_succ (w : Int) : ∀ n l, upV w (n + 1) l = pairsV w (upV w n l)
 | 0, _ => rfl
 | n + 1, l => by rw [upV, upV_succ w n]; rfl
theorem upV_len (w : Int) : ∀ (n k : Nat) (l : List SNode), l.length = 2 ^ (n + k) → (upV w n l).length = 2 ^ k
 | 0, k, l, h => by rw [Nat.zero_add] at h; exact h
 | n + 1, k, l, h => by
  rw [upV]
  refine upV_len w n k _ (pairsV_len w _ _ ?_)
  rw [h, show n + 1 + k = (n + k) + 1 by omega, Nat.pow_succ, Nat.mul_comm]
theorem levelsV_get (w : Int) : ∀ (k n : Nat) (l : List SNode), n ≤ k → (levelsV w k l)[n]? = some (upV w n l)
 | 0, 0, _, _ => rfl
 | k + 1, 0, _, _ => rfl
 | k + 1, n + 1, l, h => by
  rw [levelsV, List.getElem?_cons_succ, levelsV_get w k n _ (by omega)]; rfl
end Go.Proofs.YtfcodmdckcihmaaDoor.P
namespace Go.Proofs.YtfcodmdckcihmaaDoor.P
open Go.RowKit Go.Proofs.YtfcodmdckcihmaaDoorW.PrintWords Go.Proofs.YtfcodmdckcihmaaDoorW.PrintLast Go.Proofs.YtfcodmdckcihmaaDoorW.PrintMore
set_option linter.unusedVariables false
set_option linter.unusedSimpArgs false
set_option linter.unnecessarySimpa false
theorem up_ok {wd : Int} {K : Nat} {l : List SNode} (hl : l.length = 2 ^ K) (hk : ∀ x ∈ l, NodeK wd x) (ht : totL l < 340282366920938463463374607431768211456) : ∀ i, i ≤ K → (upV wd i l).length = 2 ^ (K - i) ∧ (∀ x ∈ upV wd i l, NodeK wd x) ∧ totL (upV wd i l) = totL l := by
 intro i
 induction i with
 | zero => intro _; exact ⟨hl, hk, rfl⟩
 | succ i ih =>
  intro hi
  obtain ⟨h1, h2, h3⟩ := ih (by omega)
  have hm : (upV wd i l).length = 2 * 2 ^ (K - (i + 1)) := by rw [h1, show K - i = (K - (i + 1)) + 1 by omega, Nat.pow_succ, Nat.mul_comm]
  have hok : pairsOk (upV wd i l) = true := by
   cases h : pairsOk (upV wd i l) with
   | true => rfl
   | false => exact absurd (by rw [h3]; exact ht) (pairsOk_tot _ _ hm h2 h)
  rw [upV_succ]
  exact ⟨pairsV_len wd _ _ hm, pairsV_k _ _ hm h2 hok, (pairsV_tot wd _ _ hm).trans h3⟩
end Go.Proofs.YtfcodmdckcihmaaDoor.P
namespace Go.Proofs.YtfcodmdckcihmaaDoor.P
open Go.RowKit Go.Proofs.YtfcodmdckcihmaaDoorW.PrintWords Go.Proofs.YtfcodmdckcihmaaDoorW.PrintLast Go.Proofs.YtfcodmdckcihmaaDoorW.PrintMore
set_option linter.unusedVariables false
set_option linter.unusedSimpArgs false
set_option linter.unnecessarySimpa false
section
variable {F : Fence} {m : Nat} {P : Program} {ops : Array Oper} {Q : Exit → Act → World → Prop}
def StepAtIn (F : Fence) (m : Nat) (P : Program) (ops : Array Oper) (Q : Exit → Act → World → Prop) (I : (Nat → Bool) → Act → World → Prop) (i : Nat) : Prop :=
 ∀ o, ops[i]? = some o → ∀ l a w, I l a w → l i = false → (∀ j ∈ rgNeeds o, l j = true) → if Region.wanted o (yielded ops a.tmps) = true then o.wpIn F m P a w (fun a' w' => I (upd l i) a' w') Q else (∀ f, o.about P w a.eval = some f → F.fn f) ∧ I (upd l i) (a.put o.dst undef) w
theorem rg_anyIn (I : (Nat → Bool) → Act → World → Prop) (hord : rgOrd ops = true) (hstep : ∀ i, i < ops.size → StepAtIn F m P ops Q I i) (hend : ∀ l a w, I l a w → (∀ i, i < ops.size → l i = true) → Q .normal a w) :
  ∀ (fuel : Nat) (arr : Array Bool) (a : Act) (w : World), arr.size = ops.size → I (fun j => arr.getD j false) a w → rgUndone ops.size (fun j => arr.getD j false) ≤ fuel → wpAnyIn F m P .any ops Q fuel arr a w := by
 have hready : ∀ arr : Array Bool, arr.size = ops.size → Region.ready .any ops arr = [] → ∀ i, i < ops.size → arr.getD i false = true := by
  intro arr hs hr i
  induction i using Nat.strongRecOn with
  | ind i ih =>
   intro hi
   cases hb : arr.getD i false with
   | true => rfl
   | false =>
    exfalso
    have ho : ops[i]? = some ops[i] := Array.getElem?_eq_getElem hi
    have hall : (rgNeeds ops[i]).all (fun j => decide (j < i)) = true := by
     have := List.all_eq_true.1 hord i (List.mem_range.2 hi)
     simp only [ho] at this
     exact this
    have hmem : i ∈ Region.ready .any ops arr := by
     unfold Region.ready
     rw [List.mem_filter]
     refine ⟨List.mem_range.2 hi, ?_⟩
     have h1 : arr.getD i true = false := by
      simp only [Array.getD_eq_getD_getElem?] at hb ⊢
      rw [Array.getElem?_eq_getElem (by omega)] at hb ⊢
      simpa using hb
     simp only [h1, Bool.not_false, Bool.true_and, ho, Option.map_some, Option.getD_some]
     rw [← Array.all_toList, List.all_eq_true]
     intro e he
     cases hbd : Region.binds .any e with
     | false => rfl
     | true =>
      have hj : e.on ∈ rgNeeds ops[i] := List.mem_map.2 ⟨e, List.mem_filter.2 ⟨he, hbd⟩, rfl⟩
      have hlt : e.on < i := by simpa using List.all_eq_true.1 hall e.on hj
      rw [ih e.on hlt (by omega)]; rfl
    rw [hr] at hmem
    exact absurd hmem (List.not_mem_nil)
 intro fuel
 induction fuel with
 | zero =>
  intro arr a w hs hI hu
  have hd := rgUndone_zero (Nat.le_zero.1 hu)
  refine ⟨?_, hend _ a w hI hd⟩
  unfold Region.ready
  rw [List.filter_eq_nil_iff]
  intro i hi
  have h1 := hd i (List.mem_range.1 hi)
  have h2 : arr.getD i true = true := by
   have hlt := List.mem_range.1 hi
   simp only [Array.getD_eq_getD_getElem?] at h1 ⊢
   rw [Array.getElem?_eq_getElem (by omega)] at h1 ⊢
   simpa using h1
  simp [h2]
 | succ fuel ih =>
  intro arr a w hs hI hu
  refine ⟨fun hr => hend _ a w hI (hready arr hs hr), fun i hi => ?_⟩
  unfold Region.ready at hi
  rw [List.mem_filter] at hi
  obtain ⟨hir, hi2⟩ := hi
  have hlt := List.mem_range.1 hir
  have ho : ops[i]? = some ops[i] := Array.getElem?_eq_getElem hlt
  simp only [ho, Option.map_some, Option.getD_some, Bool.and_eq_true, Bool.not_eq_true'] at hi2
  have hb : arr.getD i false = false := by
   have h1 := hi2.1
   simp only [Array.getD_eq_getD_getElem?] at h1 ⊢
   rw [Array.getElem?_eq_getElem (by omega)] at h1 ⊢
   simpa using h1
  have hn : ∀ j ∈ rgNeeds ops[i], arr.getD j false = true := by
   intro j hj
   obtain ⟨e, he, rfl⟩ := List.mem_map.1 hj
   obtain ⟨he1, he2⟩ := List.mem_filter.1 he
   have h3 := hi2.2
   rw [← Array.all_toList, List.all_eq_true] at h3
   have := h3 e he1
   rw [he2] at this
   simpa using this
  have hst := hstep i hlt _ ho _ a w hI hb hn
  have hK : ∀ a' w', I (upd (fun j => arr.getD j false) i) a' w' → wpAnyIn F m P .any ops Q fuel (arr.setIfInBounds i true) a' w' := by
   intro a' w' h'
   have e : (fun j => (arr.setIfInBounds i true).getD j false) = upd (fun j => arr.getD j false) i := by
    funext j
    unfold upd
    simp only [Array.getD_eq_getD_getElem?]
    by_cases e : j = i
    ·
     subst e
     rw [if_pos rfl, Array.getElem?_setIfInBounds_self_of_lt (by omega)]; rfl
    ·
     rw [if_neg e, Array.getElem?_setIfInBounds_ne (fun h => e h.symm)]
   refine ih _ a' w' (by simpa using hs) (by rw [e]; exact h') ?_
   rw [e]
   have := rgUndone_upd (l := fun j => arr.getD j false) hlt hb
   omega
  unfold wpOpIn
  rw [ho]
  dsimp only
  split
  ·
   rename_i hw
   rw [if_pos hw] at hst
   exact Oper.wpIn_mono hK hst
  ·
   rename_i hw
   rw [if_neg hw] at hst
   exact ⟨hst.1, hK _ _ hst.2⟩
theorem region_invIn {id : Nat} {a : Act} {w : World} (I : (Nat → Bool) → Act → World → Prop) (n : Nat) (hm : P.follows .mixedOrders = true) (hn : ops.size = n) (hord : rgOrd ops = true) (h0 : I (fun _ => false) a w.drew)
  (hend : ∀ l a w, I l a w → (∀ i, i < n → l i = true) → Q .normal a w) (hstep : ∀ i, i < n → StepAtIn F m P ops Q I i) : (Code.region id ops true).wpIn F m P Q a w := by
 subst hn
 refine wpIn_region_any hm (rg_anyIn I hord hstep hend ops.size _ a _ (by simp) ?_ ?_)
 ·
  have e : (fun j => (Array.replicate ops.size false).getD j false) = fun _ => false := by
   funext j
   simp only [Array.getD_eq_getD_getElem?, Array.getElem?_replicate]
   split <;> rfl
  rw [e]; exact h0
 ·
  unfold rgUndone
  have := List.countP_le_length (p := fun j => !(Array.replicate ops.size false).getD j false) (l := List.range ops.size)
  simpa using this
theorem rgi_step {I : (Nat → Bool) → Act → World → Prop} {i : Nat} {oi : Oper} (hi : ops[i]? = some oi)
  (h : ∀ l a w, I l a w → l i = false → (∀ j ∈ rgNeeds oi, l j = true) → if Region.wanted oi (yielded ops a.tmps) = true then oi.wpIn F m P a w (fun a' w' => I (upd l i) a' w') Q else (∀ f, oi.about P w a.eval = some f → F.fn f) ∧ I (upd l i) (a.put oi.dst undef) w) : StepAtIn F m P ops Q I i := by
 intro o ho
 rw [hi] at ho
 cases ho
 exact h
theorem rgi_val {K : Act → World → Prop} {oi : Oper} {a : Act} {w w' : World} {v : Value} (hF : ∀ f, F.fn f) (hw : Region.wanted oi (yielded ops a.tmps) = true) (hd : ∀ c, oi.op ≠ .defer c) (hrun : (execOp a.eval oi).run P w = .ok (.value v) w') (hK : K (a.put oi.dst v) w') :
  if Region.wanted oi (yielded ops a.tmps) = true then oi.wpIn F m P a w K Q else (∀ f, oi.about P w a.eval = some f → F.fn f) ∧ K (a.put oi.dst undef) w := by
 rw [if_pos hw]; unfold Oper.wpIn; rw [Oper.semAt_eq _ _ _ hd, hrun]; exact ⟨fun f _ => hF f, hK⟩
theorem rgi_skip {K : Act → World → Prop} {oi : Oper} {a : Act} {w w' : World} (hF : ∀ f, F.fn f) (hw : Region.wanted oi (yielded ops a.tmps) = true) (hd : ∀ c, oi.op ≠ .defer c) (hrun : (execOp a.eval oi).run P w = .ok .skip w') (hK : K (a.put oi.dst undef) w') :
  if Region.wanted oi (yielded ops a.tmps) = true then oi.wpIn F m P a w K Q else (∀ f, oi.about P w a.eval = some f → F.fn f) ∧ K (a.put oi.dst undef) w := by
 rw [if_pos hw]; unfold Oper.wpIn; rw [Oper.semAt_eq _ _ _ hd, hrun]; exact ⟨fun f _ => hF f, hK⟩
theorem rgi_call {K : Act → World → Prop} {oi : Oper} {a : Act} {w : World} {f : FuncId} {args : Array Value} (hF : ∀ f, F.fn f) (hdp : F.depth = none) (hw : Region.wanted oi (yielded ops a.tmps) = true) (hd : ∀ c, oi.op ≠ .defer c) (hrun : (execOp a.eval oi).run P w = .ok (.enter f args) w)
  (h : CallsIn F (m - 1) P f args w fun e w' => ∃ v, e = .returned v ∧ K (a.put oi.dst v) w') :
  if Region.wanted oi (yielded ops a.tmps) = true then oi.wpIn F m P a w K Q else (∀ f, oi.about P w a.eval = some f → F.fn f) ∧ K (a.put oi.dst undef) w := by
 rw [if_pos hw]; unfold Oper.wpIn; rw [Oper.semAt_eq _ _ _ hd, hrun]
 rw [Oper.uponIn_enter]
 refine And.intro (fun f _ => hF f) (And.intro (fun h => by rw [hdp] at h; cases h) ?_)
 exact h.mono fun e w' ⟨v, he, hk⟩ => by subst he; exact hk
theorem li_val {w w' : World} {rest : List Oper} {o : Oper} {a : Act} {v : Value} (hg : o.guard = none) (hF : ∀ f, F.fn f) (hd : ∀ c, o.op ≠ .defer c) (hrun : (execOp a.eval o).run P w = .ok (.value v) w') (hK : wpListIn F m P ops Q rest (a.put o.dst v) w') : wpListIn F m P ops Q (o :: rest) a w := by
 refine wpListIn_plain hg fun K hK' => ?_
 unfold Oper.wpIn; rw [Oper.semAt_eq _ _ _ hd, hrun]; exact ⟨fun f _ => hF f, hK' _ _ hK⟩
theorem li_skip {w w' : World} {rest : List Oper} {o : Oper} {a : Act} (hg : o.guard = none) (hF : ∀ f, F.fn f) (hd : ∀ c, o.op ≠ .defer c) (hrun : (execOp a.eval o).run P w = .ok .skip w') (hK : wpListIn F m P ops Q rest (a.put o.dst undef) w') : wpListIn F m P ops Q (o :: rest) a w := by
 refine wpListIn_plain hg fun K hK' => ?_
 unfold Oper.wpIn; rw [Oper.semAt_eq _ _ _ hd, hrun]; exact ⟨fun f _ => hF f, hK' _ _ hK⟩
end
end Go.Proofs.YtfcodmdckcihmaaDoor.P
namespace Go.Proofs.YtfcodmdckcihmaaDoor.P
open Go.RowKit Go.Proofs.YtfcodmdckcihmaaDoorW.PrintWords Go.Proofs.YtfcodmdckcihmaaDoorW.PrintLast Go.Proofs.YtfcodmdckcihmaaDoorW.PrintMore
set_option linter.unusedVariables false
set_option linter.unusedSimpArgs false
set_option linter.unnecessarySimpa false
attribute [local go_sem] Oper.semAt_some sel_true
theorem chunk.calls (A : Option Addr) (m c : Nat) (w : World) : Calls Tryd.prog 58 #[.slice A m c, .int .i64 2] w fun e w' => e = .returned (.func (.func 95) #[] #[.pointer (some ⟨w.heap.size, 0, none⟩), .pointer (some ⟨w.heap.size + 1, 0, none⟩)]) ∧ w' = (w.alloc (.cells #[.slice A m c] 43)).alloc (.cells #[.int .i64 2] 3) := by
 go_enter Tryd.func58, Tryd.ntmps58
 go_wp2
 go_ret
 exact ⟨rfl, rfl⟩
def chunkV (ad : Addr) (j : Nat) : Value := .slice (some (ad.add (2 * j * 3))) 2 2
theorem slice_from (ad : Addr) (M c i : Nat) (h : i < M) (hc : M ≤ c) (wx : World) : (Instr.slice 43 (.slice (some ad) M c) (some (.int .i64 i)) none none).run Tryd.prog wx = .ok (.slice (some (ad.add (i * 3))) (M - i) (c - i)) wx := by
 have h1 := run_slice_l (P := Tryd.prog) wx 43 (some ad) M c (by kernel_rfl) .i64 (i : Int) (by omega) (by omega)
 rw [h1]
 have hs : (sizeOf (Tryd.prog.elem 43)).run Tryd.prog wx = .ok 3 wx := by kernel_rfl
 rw [hs]
 simp only [Result.andThen, sliced, Int.toNat_natCast]
 rw [if_neg (by omega)]; rfl
theorem slice_two (ad : Addr) (M c i : Nat) (h : i + 2 ≤ M) (hc : M ≤ c) (wx : World) : (Instr.slice 43 (.slice (some ad) M c) (some (.int .i64 i)) (some (.int .i64 ((i : Int) + 2))) (some (.int .i64 ((i : Int) + 2)))).run Tryd.prog wx = .ok (.slice (some (ad.add (i * 3))) 2 2) wx := by
 have h1 := run_slice_lhm (P := Tryd.prog) wx 43 (some ad) M c (by kernel_rfl) .i64 .i64 .i64 (i : Int) ((i : Int) + 2) ((i : Int) + 2) (by omega) (by omega) (by omega) (by omega)
 rw [h1]
 have hs : (sizeOf (Tryd.prog.elem 43)).run Tryd.prog wx = .ok 3 wx := by kernel_rfl
 rw [hs]
 simp only [Result.andThen, sliced, Int.toNat_natCast, show ((i : Int) + 2).toNat = i + 2 by omega]
 rw [if_neg (by omega)]
 simp
set_option maxRecDepth 100000 in
set_option maxHeartbeats 1000000 in
theorem chunk1_in (n : Nat) (hn : 1 ≤ n) (lp sb nb B : Nat) (ad : Addr) (m M c : Nat) (hM : M = 2 * m) (hm : m ≤ 1000000) (hmc : M ≤ c) (S : Nat → Prop) (hSs : S sb) (hSn : S nb)
  (J Jx : List Nat → World → Prop) (hJ : AbidesFrom B J)
  (hY : ∀ j W, J (List.range j) W → j < m → YieldAt Fence.wide (n - 1) Tryd.prog lp #[chunkV ad j] W fun e W' => (e = .returned (.bool true) ∧ J (List.range (j + 1)) W' ∧ KeepS S W W') ∨ (e = .returned (.bool false) ∧ Jx (List.range (j + 1)) W'))
  (W : World) (hs : W.heap[sb]? = some (.cells #[.slice (some ad) M c] 43 (0, 0))) (hpb : W.heap[nb]? = some (.cells #[.int .i64 2] 3 (0, 0))) (h0 : J [] W) :
  CallsIn Fence.wide n Tryd.prog 95 #[.func (.yield lp) #[] #[], .pointer (some ⟨sb, 0, none⟩), .pointer (some ⟨nb, 0, none⟩)] W fun e W' => (∃ v, e = .returned v) ∧ (J (List.range m) W' ∨ ∃ j, j ≤ m ∧ Jx (List.range j) W') := by
 have HS := aM' hs
 have HP := aM' hpb
 have HJ := aM' hJ
 have HY := aM' hY
 have HM := aM' hm
 have HMC := aM' hmc
 have HMM := aM' hM
 clear hs hpb hJ hY hm hmc hM
 refine callsIn_of_wp Tryd.func95 rfl trivial ?_
 simp only [Tryd.ntmps95, List.size_toArray, List.length_cons, List.length_nil, Nat.reduceAdd, Nat.reduceSub, Array.replicate_succ, Array.replicate_zero, List.push_toArray, List.append_toArray, List.nil_append, List.cons_append]
 gi_wp2
 gi_loopw [4] (fun v wr => ∃ i j : Nat, v = .int .i64 i ∧ Aside0 (i = 2 * j ∧ j ≤ m) ∧ Aside0 (J (List.range j) wr) ∧ Aside0 (KeepS S W wr)) (fun v _ => M - (intOf v).toNat)
 case atStart => exact ⟨0, 0, rfl, ⟨rfl, Nat.zero_le _⟩, ⟨h0⟩, ⟨fun _ _ => rfl⟩⟩
 case round =>
  obtain ⟨i, j, rfl, HI, HJs, HK⟩ := hrel
  have x0 : wr.cell? ⟨sb, 0, none⟩ = some (.slice (some ad) M c) := blk_cell ((HK.out sb hSs).trans HS.out) 0
  have x1 : wr.cell? ⟨nb, 0, none⟩ = some (.int .i64 2) := blk_cell ((HK.out nb hSn).trans HP.out) 0
  by_cases hlt : j < m
  ·
   have hi2 : i + 2 ≤ M := by have := HI.out; have := HMM.out; omega
   have b1 : decide (i < M) = true := decide_eq_true (by omega)
   have s1 := fun wx => slice_from ad M c i (by omega) HMC.out wx
   have s2 := fun wx => slice_two ad M c i hi2 HMC.out wx
   have wi : wrap64 ((i : Int) + 2) = (i : Int) + 2 := by have := HMM.out; have := HM.out; exact wrap64_id (by omega) (by omega)
   have mn : min (2 : Int) ((M - i : Nat) : Int) = 2 := by omega
   obtain ⟨fn, tmps, assign, body, hy, hR⟩ := HY.out j wr.drew (HJ.out _ wr _ none HJs.out (grown_drew _) (fun r e => by cases e)) hlt
   have he : chunkV ad j = .slice (some (ad.add (i * 3))) 2 2 := by rw [HI.out.1]; rfl
   rw [he] at hy
   have hR2 := hR.mono (fun e W' h => (show ∃ b : Bool, e = .returned (.bool b) ∧ Aside0 ((b = true ∧ J (List.range (j + 1)) W' ∧ KeepS S wr.drew W') ∨ (b = false ∧ Jx (List.range (j + 1)) W')) from
    h.elim (fun h => ⟨true, h.1, ⟨.inl ⟨rfl, h.2⟩⟩⟩) (fun h => ⟨false, h.1, ⟨.inr ⟨rfl, h.2⟩⟩⟩)))
   clear hR he
   gi_wp2
   refine region_invIn (fun l a W => a = ({ tmps := #[.func (.yield lp) #[] #[], .pointer (some ⟨sb, 0, none⟩), .pointer (some ⟨nb, 0, none⟩), undef, .int .i64 (i : Int), sel (l 6) (.int .i64 2) (u5), .int .i64 (i : Int), .slice (some ad) M c, .int .i64 (M : Int), .bool true, u10, u11, u12, sel (l 0) (.int .i64 2) (u13), sel (l 1) (.slice (some ad) M c) (u14), sel (l 2) (.int .i64 (i : Int)) (u15), sel (l 3) (.slice (some (ad.add (i * 3))) (M - i) (c - i)) (u16), sel (l 4) (.int .i64 ((M - i : Nat) : Int)) (u17), sel (l 5) (.int .i64 2) (u18), u19, u20, u21, u22, u23, u24, u25, u26, u27, u28, u29, u30], defers := [] } : Act) ∧ (W = wr.drew)) 7 rfl rfl (by kernel_rfl) ?h0 ?hend ?hstep
   case h0 => exact ⟨rfl, rfl⟩
   case hstep =>
    refine rg_cons (rg_cons (rg_cons (rg_cons (rg_cons (rg_cons (rg_cons (rg_nil) ?s0) ?s1) ?s2) ?s3) ?s4) ?s5) ?s6
    case s0 =>
     refine rgi_step rfl ?_
     rintro l a W ⟨rfl, rfl⟩ hl hd
     clear hd
     refine rgi_val (v := .int .i64 2) (w' := wr.drew) (fun _ => trivial) rfl (fun _ h => by cases h) (by go_simp) ?_
     refine ⟨?_, ?_⟩
     ·
      simp only [Act.put, List.setIfInBounds_toArray, List.set_cons_zero, List.set_cons_succ]; rfl
     ·
      rfl
    case s1 =>
     refine rgi_step rfl ?_
     rintro l a W ⟨rfl, rfl⟩ hl hd
     clear hd
     refine rgi_val (v := .slice (some ad) M c) (w' := wr.drew) (fun _ => trivial) rfl (fun _ h => by cases h) (by go_simp) ?_
     refine ⟨?_, ?_⟩
     ·
      simp only [Act.put, List.setIfInBounds_toArray, List.set_cons_zero, List.set_cons_succ]; rfl
     ·
      rfl
    case s2 =>
     refine rgi_step rfl ?_
     rintro l a W ⟨rfl, rfl⟩ hl hd
     clear hd
     refine rgi_val (v := .int .i64 (i : Int)) (w' := wr.drew) (fun _ => trivial) rfl (fun _ h => by cases h) (by go_simp) ?_
     refine ⟨?_, ?_⟩
     ·
      simp only [Act.put, List.setIfInBounds_toArray, List.set_cons_zero, List.set_cons_succ]; rfl
     ·
      rfl
    case s3 =>
     refine rgi_step rfl ?_
     rintro l a W ⟨rfl, rfl⟩ hl hd
     have d1 := hd 1 (by decide)
     have d2 := hd 2 (by decide)
     clear hd
     refine rgi_val (v := .slice (some (ad.add (i * 3))) (M - i) (c - i)) (w' := wr.drew) (fun _ => trivial) rfl (fun _ h => by cases h) (by go_simp) ?_
     refine ⟨?_, ?_⟩
     ·
      simp only [Act.put, List.setIfInBounds_toArray, List.set_cons_zero, List.set_cons_succ]; rfl
     ·
      rfl
    case s4 =>
     refine rgi_step rfl ?_
     rintro l a W ⟨rfl, rfl⟩ hl hd
     have d3 := hd 3 (by decide)
     clear hd
     refine rgi_val (v := .int .i64 ((M - i : Nat) : Int)) (w' := wr.drew) (fun _ => trivial) rfl (fun _ h => by cases h) (by go_simp) ?_
     refine ⟨?_, ?_⟩
     ·
      simp only [Act.put, List.setIfInBounds_toArray, List.set_cons_zero, List.set_cons_succ]; rfl
     ·
      rfl
    case s5 =>
     refine rgi_step rfl ?_
     rintro l a W ⟨rfl, rfl⟩ hl hd
     have d0 := hd 0 (by decide)
     have d4 := hd 4 (by decide)
     clear hd
     refine rgi_val (v := .int .i64 2) (w' := wr.drew) (fun _ => trivial) rfl (fun _ h => by cases h) (by go_simp) ?_
     refine ⟨?_, ?_⟩
     ·
      simp only [Act.put, List.setIfInBounds_toArray, List.set_cons_zero, List.set_cons_succ]; rfl
     ·
      rfl
    case s6 =>
     refine rgi_step rfl ?_
     rintro l a W ⟨rfl, rfl⟩ hl hd
     have d5 := hd 5 (by decide)
     clear hd
     refine rgi_val (v := .int .i64 2) (w' := wr.drew) (fun _ => trivial) rfl (fun _ h => by cases h) (by go_simp) ?_
     refine ⟨?_, ?_⟩
     ·
      simp only [Act.put, List.setIfInBounds_toArray, List.set_cons_zero, List.set_cons_succ]; rfl
     ·
      rfl
   case hend =>
    rintro l a W ⟨rfl, rfl⟩ hall
    have e0 := hall 0 (by decide)
    have e1 := hall 1 (by decide)
    have e2 := hall 2 (by decide)
    have e3 := hall 3 (by decide)
    have e4 := hall 4 (by decide)
    have e5 := hall 5 (by decide)
    have e6 := hall 6 (by decide)
    clear hall
    simp only [e0, e1, e2, e3, e4, e5, e6, sel_true]
    clear e0 e1 e2 e3 e4 e5 e6
    gi_wp2_with fail
    refine hR2.mono ?_
    clear hR2 hy x0 x1 s1 s2 mn
    rintro e W3 ⟨b, rfl, HE⟩
    cases b with
    | true =>
     obtain ⟨-, hJ2, hK2⟩ | ⟨h, -⟩ := HE.out
     case inr => exact absurd h (by decide)
     have hK3 : KeepS S W W3 := HK.out.trans hK2
     have HK3 := aM' hK3
     have HJ2 := aM' hJ2
     have x1 : W3.cell? ⟨nb, 0, none⟩ = some (.int .i64 2) := blk_cell ((hK3 nb hSn).trans HP.out) 0
     clear hK2 hK3 hJ2 HE
     gi_wp2
     rw [wi]
     refine ⟨⟨i + 2, j + 1, by simp, ⟨by have := HI.out; omega, hlt⟩, HJ2, HK3⟩, ?_⟩
     show M - ((i : Int) + 2).toNat < M - (i : Int).toNat
     omega
    | false =>
     obtain ⟨h, -⟩ | ⟨-, hJ2⟩ := HE.out
     case inl => exact absurd h (by decide)
     have HJ2 := aM' hJ2
     clear hJ2 HE
     gi_wp2
     refine bodyPost_ret (results_none rfl _ _ _) rfl ?_
     exact ⟨⟨_, rfl⟩, .inr ⟨_, hlt, HJ2.out⟩⟩
  ·
   have b1 : decide (i < M) = false := decide_eq_false (by have := HI.out; have := HMM.out; omega)
   obtain rfl : j = m := by have := HI.out; omega
   gi_wp2
   go_end0
   exact ⟨⟨_, rfl⟩, .inl HJs.out⟩
end Go.Proofs.YtfcodmdckcihmaaDoor.P
namespace Go.Proofs.YtfcodmdckcihmaaDoor.P
open Go.RowKit Go.Proofs.YtfcodmdckcihmaaDoorW.PrintWords Go.Proofs.YtfcodmdckcihmaaDoorW.PrintLast Go.Proofs.YtfcodmdckcihmaaDoorW.PrintMore
set_option linter.unusedVariables false
set_option linter.unusedSimpArgs false
set_option linter.unnecessarySimpa false
attribute [local go_sem] Oper.semAt_some sel_true
theorem nodeInfo : (Tryd.prog.info? 46).map (fun i => (i.zero, i.size, i.bytes)) = some (some (.agg #[(.string ⟨#[]⟩), (.int .u64 0), (.int .u64 0)]), 3, 32) := by kernel_rfl
def cellsN : List SNode → List Value
  | [] => []
  | x :: l => .string x.f0 :: .int .u64 x.f1.f0 :: .int .u64 x.f1.f1 :: cellsN l
theorem cellsN_len : ∀ l, (cellsN l).length = l.length * 3
  | [] => rfl
  | x :: l => by simp [cellsN, cellsN_len l]; omega
theorem cellsN_append : ∀ a b, cellsN (a ++ b) = cellsN a ++ cellsN b
  | [], _ => rfl
  | x :: a, b => by rw [List.cons_append, cellsN, cellsN_append a b]; rfl
theorem cellsN_get : ∀ (l : List SNode) (j i : Nat) (p : SNode), l[j]? = some p → i < 3 → (cellsN l)[j * 3 + i]? = [Value.string p.f0, .int .u64 p.f1.f0, .int .u64 p.f1.f1][i]?
  | [], j, i, p, h, _ => by simp at h
  | x :: l, 0, i, p, h, hi => by
    obtain rfl := Option.some.inj h
    rw [cellsN, Nat.zero_mul, Nat.zero_add]
    match i, hi with
    | 0, _ => rfl
    | 1, _ => rfl
    | 2, _ => rfl
  | x :: l, j + 1, i, p, h, hi => by
    have h' : l[j]? = some p := by simpa using h
    rw [cellsN, show (j + 1) * 3 + i = (j * 3 + i) + 3 by omega]
    simp only [List.getElem?_cons_succ]
    exact cellsN_get l j i p h' hi
theorem addr_at (g n : Nat) : (⟨g, 0, none⟩ : Addr).add n = ⟨g, n, none⟩ := by unfold Addr.add; split <;> simp_all
theorem ownNodes_C {w : World} {base g n cap : Nat} {xs : List SNode} (h : w.ownsRow base 46 3 (.slice (some ⟨g, 0, none⟩) n cap) n (cellsN xs)) : xs.length = n ∧ n ≤ cap ∧ Kd.C kNode w (some ⟨g, 0, none⟩) n xs := by
  obtain ⟨hlen, h⟩ := h
  rw [cellsN_len] at hlen
  have hl : xs.length = n := by omega
  rcases h with ⟨h, _⟩ | ⟨g', cap', cur, hv, hb, hg, hcap, hmax, hsz, htk⟩
  · cases h
  · simp only [Value.slice.injEq, Option.some.injEq, Addr.mk.injEq] at hv
    obtain ⟨⟨rfl, -⟩, -, rfl⟩ := hv
    refine ⟨hl, hcap, hl, by unfold maxLen at hmax; omega, fun h0 => ⟨_, rfl, fun j p hj => ?_⟩⟩
    refine ⟨_, rfl, kNode_mk w p, fun i u hu => ?_⟩
    have hi : i < 3 := by
      rcases Nat.lt_or_ge i 3 with h | h
      · exact h
      · simp [h] at hu
    have hjn : j < xs.length := (List.getElem?_eq_some_iff.1 hj).1
    have e : kNode.sz = 3 := rfl
    rw [e, addr_at, blk_cell hg]
    have h1 := cellsN_get xs j i p hj hi
    rw [← htk, List.getElem?_take, if_pos (by omega)] at h1
    rw [hu] at h1
    simpa using h1
theorem two_at {W : World} {ad : Addr} {l : List SNode} (h : Kd.C kNode W (some ad) l.length l) (j : Nat) (hj : 2 * j + 1 < l.length) :
    ((W.cell? (ad.add (2 * j * 3)) = some (.string (l[2 * j]'(by omega)).f0) ∧ W.cell? ⟨(ad.add (2 * j * 3)).block, (ad.add (2 * j * 3)).off + 1, none⟩ = some (.int .u64 (l[2 * j]'(by omega)).f1.f0) ∧ W.cell? ⟨(ad.add (2 * j * 3)).block, (ad.add (2 * j * 3)).off + 2, none⟩ = some (.int .u64 (l[2 * j]'(by omega)).f1.f1)) ∧
     (W.cell? ((ad.add (2 * j * 3)).add 3) = some (.string l[2 * j + 1].f0) ∧ W.cell? ⟨((ad.add (2 * j * 3)).add 3).block, ((ad.add (2 * j * 3)).add 3).off + 1, none⟩ = some (.int .u64 l[2 * j + 1].f1.f0) ∧ W.cell? ⟨((ad.add (2 * j * 3)).add 3).block, ((ad.add (2 * j * 3)).add 3).off + 2, none⟩ = some (.int .u64 l[2 * j + 1].f1.f1))) := by
  obtain ⟨a1, e1, p0, p1, p2⟩ := at_TNode h ((2 * j : Nat) : Int) (by omega) (by omega)
  obtain ⟨a2, e2, q0, q1, q2⟩ := at_TNode h ((2 * j + 1 : Nat) : Int) (by omega) (by omega)
  cases e1; cases e2
  rw [rdNode_nat l (2 * j) (by omega), Int.toNat_natCast] at p0 p1 p2
  rw [rdNode_nat l (2 * j + 1) hj, Int.toNat_natCast] at q0 q1 q2
  have e3 : (ad.add (2 * j * 3)).add 3 = ad.add ((2 * j + 1) * 3) := by rw [Addr.add_add]; congr 1; omega
  rw [e3]
  exact ⟨⟨p0, p1, p2⟩, q0, q1, q2⟩
theorem two_at' {W : World} {ad : Addr} {l : List SNode} (h : Kd.C kNode W (some ad) l.length l) (j : Nat) (hj : 2 * j + 1 < l.length) (a b : SNode) (ha : a = l.getD (2 * j) zeroN) (hb : b = l.getD (2 * j + 1) zeroN) (ap : Addr) (hap : ap = ad.add (2 * j * 3)) :
    ((W.cell? ap = some (.string a.f0) ∧ W.cell? ⟨ap.block, ap.off + 1, none⟩ = some (.int .u64 a.f1.f0) ∧ W.cell? ⟨ap.block, ap.off + 2, none⟩ = some (.int .u64 a.f1.f1)) ∧
     (W.cell? ⟨ap.block, ap.off + 3, none⟩ = some (.string b.f0) ∧ W.cell? ⟨ap.block, ap.off + 3 + 1, none⟩ = some (.int .u64 b.f1.f0) ∧ W.cell? ⟨ap.block, ap.off + 3 + 2, none⟩ = some (.int .u64 b.f1.f1))) := by
  have h1 : l.getD (2 * j) zeroN = l[2 * j]'(by omega) := by simp [List.getD_eq_getElem?_getD, show 2 * j < l.length by omega]
  have h2 : l.getD (2 * j + 1) zeroN = l[2 * j + 1] := by simp [List.getD_eq_getElem?_getD, hj]
  subst ha hb hap
  rw [h1, h2]
  obtain ⟨p, q0, q1, q2⟩ := two_at h j hj
  have e3 : (ad.add (2 * j * 3)).add 3 = ⟨(ad.add (2 * j * 3)).block, (ad.add (2 * j * 3)).off + 3, none⟩ := rfl
  rw [e3] at q0 q1 q2
  exact ⟨p, q0, q1, q2⟩
structure Pr4 (W0 W : World) (x : SNode) (l : Nat → Bool) (γ : Nat) : Prop where
  hB : Below W0.heap.size W0 W
  hg : l 11 = true → W0.heap.size ≤ γ ∧ W.heap[γ]? = some (.cells (if l 12 = true then nodeA x else #[.string ⟨#[]⟩, .int .u64 0, .int .u64 0]) 46 (0, 0))
  ho : l 12 = true → l 11 = true
theorem Pr4.other {W0 W W' : World} {x : SNode} {l : Nat → Bool} {γ : Nat} (h : Pr4 W0 W x l γ) (i : Nat) (hi : i ≠ 11) (hi2 : i ≠ 12) (hb : Below W.heap.size W W') : Pr4 W0 W' x (upd l i) γ := by
  have e1 : upd l i 11 = l 11 := by unfold upd; rw [if_neg (fun e => hi e.symm)]
  have e2 : upd l i 12 = l 12 := by unfold upd; rw [if_neg (fun e => hi2 e.symm)]
  refine ⟨h.hB.trans (hb.mono h.hB.size), ?_, ?_⟩
  · rw [e1, e2]; exact fun hl => ⟨(h.hg hl).1, blk_below (h.hg hl).2 hb⟩
  · rw [e1, e2]; exact h.ho
theorem Pr4.alloc {W0 W : World} {x : SNode} {l : Nat → Bool} {γ : Nat} (h : Pr4 W0 W x l γ) (hl : l 11 = false) : Pr4 W0 (W.alloc (.cells #[.string ⟨#[]⟩, .int .u64 0, .int .u64 0] 46 (0, 0))) x (upd l 11) W.heap.size := by
  have h12 : l 12 = false := by
    cases hx : l 12 with
    | false => rfl
    | true => rw [h.ho hx] at hl; cases hl
  have e1 : upd l 11 11 = true := rfl
  have e2 : upd l 11 12 = l 12 := rfl
  refine ⟨below_alloc h.hB _, ?_, ?_⟩
  · rw [e1, e2, h12]; exact fun _ => ⟨h.hB.size, blk_new W _⟩
  · rw [e1]; exact fun _ => rfl
theorem Pr4.store {W0 W : World} {x : SNode} {l : Nat → Bool} {γ : Nat} (h : Pr4 W0 W x l γ) (ha : l 11 = true) (hl : l 12 = false) : Pr4 W0 (((W.setCell ⟨γ, 0, none⟩ (.string x.f0)).setCell ⟨γ, 1, none⟩ (.int .u64 x.f1.f0)).setCell ⟨γ, 2, none⟩ (.int .u64 x.f1.f1)) x (upd l 12) γ := by
  have e1 : upd l 12 11 = l 11 := rfl
  have e2 : upd l 12 12 = true := rfl
  obtain ⟨h1, h2⟩ := h.hg ha
  rw [hl, if_neg (by decide)] at h2
  refine ⟨below_set (below_set (below_set h.hB h1) h1) h1, ?_, ?_⟩
  · rw [e1, e2, if_pos rfl]; exact fun _ => ⟨h1, put3 (z := ⟨⟨#[]⟩, ⟨0, 0⟩⟩) h2 x⟩
  · rw [e1]; exact fun _ => ha
abbrev closV (B : Nat) : Value := .func (.func 76) #[] #[.pointer (some ⟨B, 0, none⟩)]
structure PrS (w : World) (B m b3 b4 b5 bx b6 : Nat) (done : List SNode) (r4 : Value) (r5 : Int) (W : World) : Prop where
  n3 : b3 = w.heap.size
  n4 : b4 = w.heap.size + 1
  n5 : b5 = w.heap.size + 2
  nx : bx = w.heap.size + 3
  n6 : b6 = w.heap.size + 4
  h3 : W.heap[b3]? = some (.cells #[closV B] 133 (0, 0))
  h4 : W.heap[b4]? = some (.cells #[r4] 43 (0, 0))
  h5 : W.heap[b5]? = some (.cells #[.int .i64 r5] 26 (0, 0))
  own : W.ownsRow w.heap.size 46 3 (.slice (some ⟨bx, 0, none⟩) done.length m) done.length (cellsN done)
  h6 : W.heap[b6]? = some (.cells #[.slice (some ⟨bx, 0, none⟩) done.length m] 43 (0, 0))
  hB : Below w.heap.size w W
theorem PrS.lt {w W : World} {B m b3 b4 b5 bx b6 : Nat} {done : List SNode} {r4 : Value} {r5 : Int} (h : PrS w B m b3 b4 b5 bx b6 done r4 r5 W) : w.heap.size + 4 < W.heap.size := by have := blk_lt h.h6; rw [h.n6] at this; exact this
theorem own_keep {w w' : World} {base n m g : Nat} {xs : List Value} {e : TypeId} {size : Nat} (h : w.ownsRow base e size (.slice (some ⟨g, 0, none⟩) n m) n xs) (hk : w'.heap[g]? = w.heap[g]?) : w'.ownsRow base e size (.slice (some ⟨g, 0, none⟩) n m) n xs := by
  obtain ⟨hlen, h⟩ := h
  refine ⟨hlen, ?_⟩
  rcases h with ⟨h, _⟩ | ⟨g', cap', cur, hv, hb, hg, hr⟩
  · cases h
  · have e : g' = g := by simp only [Value.slice.injEq, Option.some.injEq, Addr.mk.injEq] at hv; exact hv.1.1.symm
    subst e
    exact .inr ⟨_, cap', cur, hv, hb, hk.trans hg, hr⟩
theorem PrS.keep {w W W' : World} {B m b3 b4 b5 bx b6 : Nat} {done : List SNode} {r4 : Value} {r5 : Int} (h : PrS w B m b3 b4 b5 bx b6 done r4 r5 W) (hk : ∀ k, k ≤ w.heap.size + 4 → W'.heap[k]? = W.heap[k]?) (hB : Below w.heap.size w W') : PrS w B m b3 b4 b5 bx b6 done r4 r5 W' :=
  ⟨h.n3, h.n4, h.n5, h.nx, h.n6, (hk _ (by have := h.n3; omega)).trans h.h3, (hk _ (by have := h.n4; omega)).trans h.h4, (hk _ (by have := h.n5; omega)).trans h.h5, own_keep h.own (hk _ (by have := h.nx; omega)), (hk _ (by have := h.n6; omega)).trans h.h6, hB⟩
theorem PrS.below {w W W' : World} {B m b3 b4 b5 bx b6 : Nat} {done : List SNode} {r4 : Value} {r5 : Int} (h : PrS w B m b3 b4 b5 bx b6 done r4 r5 W) (hb : Below W.heap.size W W') : PrS w B m b3 b4 b5 bx b6 done r4 r5 W' :=
  h.keep (fun k h2 => hb.block k (by have := h.lt; omega)) (h.hB.trans (hb.mono h.hB.size))
theorem PrS.grown {w X Y : World} {B m b3 b4 b5 bx b6 C : Nat} {done : List SNode} {r4 : Value} {r5 : Int} {row : Option Nat} (h : PrS w B m b3 b4 b5 bx b6 done r4 r5 X) (hg : X.grownBy Y row) (hlt : w.heap.size + 4 < C) (hr : ∀ r, row = some r → C ≤ r) : PrS w B m b3 b4 b5 bx b6 done r4 r5 Y := by
  have hl := h.lt
  have hk : ∀ k, k ≤ w.heap.size + 4 → Y.heap[k]? = X.heap[k]? := fun k hk => hg.block k (by omega) (fun e => by have := hr k e.symm; omega)
  exact h.keep hk ⟨hg.os.trans h.hB.os, hg.tape.trans h.hB.tape, hg.output.trans h.hB.output, Nat.le_trans h.hB.size hg.size, fun i hi => (hk i (by omega)).trans (h.hB.block i hi)⟩
theorem PrS.more {w W W' : World} {B m b3 b4 b5 bx b6 : Nat} {done : List SNode} {r4 : Value} {r5 : Int} (x : SNode) (h : PrS w B m b3 b4 b5 bx b6 done r4 r5 W) (hg : W.grownBy W' (some bx)) (hown : W'.ownsRow w.heap.size 46 3 (.slice (some ⟨bx, 0, none⟩) (done.length + 1) m) (done.length + 1) (cellsN done ++ [.string x.f0, .int .u64 x.f1.f0, .int .u64 x.f1.f1])) :
    PrS w B m b3 b4 b5 bx b6 (done ++ [x]) r4 r5 (W'.setCell ⟨b6, 0, none⟩ (.slice (some ⟨bx, 0, none⟩) (done.length + 1) m)) := by
  have hl := h.lt
  have n3 := h.n3; have n4 := h.n4; have n5 := h.n5; have nx := h.nx; have n6 := h.n6
  have hk : ∀ k, k ≤ w.heap.size + 4 → k ≠ bx → W'.heap[k]? = W.heap[k]? := fun k hk hn => hg.block k (by omega) (fun e => hn (Option.some.inj e))
  have hlen : (done ++ [x]).length = done.length + 1 := by simp
  refine ⟨n3, n4, n5, nx, n6, blk_far ((hk _ (by omega) (by omega)).trans h.h3) (by (try dsimp only); omega) _, blk_far ((hk _ (by omega) (by omega)).trans h.h4) (by (try dsimp only); omega) _, blk_far ((hk _ (by omega) (by omega)).trans h.h5) (by (try dsimp only); omega) _, ?_, ?_, ?_⟩
  · rw [hlen, cellsN_append]
    exact own_keep hown (Below.heap_setCell _ _ _ _ (by (try dsimp only); omega))
  · rw [hlen]
    exact blk_put ((hk _ (by omega) (by omega)).trans h.h6) 0 _ rfl
  · have hB : Below w.heap.size w W' := ⟨hg.os.trans h.hB.os, hg.tape.trans h.hB.tape, hg.output.trans h.hB.output, Nat.le_trans h.hB.size hg.size, fun i hi => (hk i (by omega) (by omega)).trans (h.hB.block i hi)⟩
    exact below_set hB (by (try dsimp only); omega)
theorem PrS.put {w W : World} {B m b3 b4 b5 bx b6 : Nat} {done : List SNode} {r4 : Value} {r5 : Int} (h : PrS w B m b3 b4 b5 bx b6 done r4 r5 W) (v : Value) (e : Int) : PrS w B m b3 b4 b5 bx b6 done v e ((W.setCell ⟨b4, 0, none⟩ v).setCell ⟨b5, 0, none⟩ (.int .i64 e)) := by
  have n3 := h.n3; have n4 := h.n4; have n5 := h.n5; have nx := h.nx; have n6 := h.n6
  exact ⟨n3, n4, n5, nx, n6, blk_far (blk_far h.h3 (by (try dsimp only); omega) _) (by (try dsimp only); omega) _, blk_far (blk_put h.h4 0 _ rfl) (by (try dsimp only); omega) _, blk_put (blk_far h.h5 (by (try dsimp only); omega) _) 0 _ rfl,
    own_keep (own_keep h.own (Below.heap_setCell _ _ _ _ (by (try dsimp only); omega))) (Below.heap_setCell _ _ _ _ (by (try dsimp only); omega)), blk_far (blk_far h.h6 (by (try dsimp only); omega) _) (by (try dsimp only); omega) _, below_set (below_set h.hB (by (try dsimp only); omega)) (by (try dsimp only); omega)⟩
end Go.Proofs.YtfcodmdckcihmaaDoor.P
namespace Go.Proofs.YtfcodmdckcihmaaDoor.P
open Go.RowKit Go.Proofs.YtfcodmdckcihmaaDoorW.PrintWords Go.Proofs.YtfcodmdckcihmaaDoorW.PrintLast Go.Proofs.YtfcodmdckcihmaaDoorW.PrintMore
set_option linter.unusedVariables false
set_option linter.unusedSimpArgs false
set_option linter.unnecessarySimpa false
attribute [local go_sem] sel_true
theorem pow_small (h : Nat) (hh : h ≤ 10) : wrap64 ((2 : Int) ^ h) = ((2 ^ h : Nat) : Int) := by
 have h1 : 2 ^ h ≤ 2 ^ 10 := Nat.pow_le_pow_right (by decide) hh
 have e : ((2 ^ h : Nat) : Int) = (2 : Int) ^ h := by simp
 rw [← e]
 revert h1
 generalize 2 ^ h = p
 intro h1
 exact wrap64_id (by omega) (by omega)
theorem len_all : ∀ n ∈ List.range 1025, n ≠ 0 → Lib.bitLen n = (Lib.bitLen n - 1) + 1 ∧ Lib.bitLen n - 1 ≤ 10 ∧ (n == 2 ^ (Lib.bitLen n - 1)) = isPow n := by decide +kernel
set_option maxRecDepth 100000 in
theorem height.calls (n : Nat) (w : World) (hn : n ≤ 1024) : Calls Tryd.prog 55 #[.int .i64 (n : Int)] w fun e w' => (∃ h, e = .returned (.tuple #[.int .i64 h, .bool (isPow n)])) ∧ w = w' := by
 have hw : IntKind.u64.wrap (n : Int) = (n : Int) := wrapu64_id (by omega) (by omega)
 by_cases h0 : n = 0
 ·
  subst h0
  go_enter Tryd.func55, Tryd.ntmps55
  go_wp2_with fail
  refine (Tryd.bits_Len 0 w (by decide) (by decide)).mono ?_
  rintro e w1 ⟨rfl, rfl⟩
  go_wp2
  go_ret2
  exact ⟨⟨_, rfl⟩, rfl⟩
 ·
  obtain ⟨e1, e2, e3⟩ := len_all n (List.mem_range.2 (by omega)) h0
  have q := Tryd.bits_Len (n : Int) w (by omega) (by omega)
  rw [Int.toNat_natCast, e1] at q
  generalize Lib.bitLen n - 1 = h at e2 e3 q
  clear e1
  have w1 : wrap64 (((h + 1 : Nat) : Int) - 1) = (h : Int) := by rw [wrap64_id (by omega) (by omega)]; omega
  have b1 : decide ((0 : Int) < (n : Int)) = true := decide_eq_true (by omega)
  have b2 : decide (0 < n) = true := decide_eq_true (by omega)
  have b4 : decide ((h : Int) ≤ 10) = true := decide_eq_true (by omega)
  have b5 : decide (h ≤ 10) = true := decide_eq_true (by omega)
  have b3 : ((n : Int) == ((2 ^ h : Nat) : Int)) = isPow n := by
   rw [← e3, Bool.eq_iff_iff, beq_iff_eq, beq_iff_eq]
   exact Int.ofNat_inj
  rw [← pow_small h e2] at b3
  have Q := aM' q
  clear q e3
  cases hp : isPow n with
  | true =>
   rw [hp] at b3
   go_enter Tryd.func55, Tryd.ntmps55
   go_wp2_with fail
   refine Q.out.mono ?_
   rintro e w1 ⟨rfl, rfl⟩
   go_wp2
   go_ret2
   exact ⟨⟨_, rfl⟩, rfl⟩
  | false =>
   rw [hp] at b3
   go_enter Tryd.func55, Tryd.ntmps55
   go_wp2_with fail
   refine Q.out.mono ?_
   rintro e w1 ⟨rfl, rfl⟩
   go_wp2
   go_ret2
   exact ⟨⟨_, rfl⟩, rfl⟩
structure OkL (x : SLeaf) : Prop where
 id : x.f1.size ≤ 1000000
 sa : x.f2.size ≤ 1000000
 ub : OkU x.f3
def newI (wd : Int) (l : List SLeaf) : Int :=
 if wd < 1 ∨ 32 < wd then 70 else if isPow l.length = false then 120 else if l.all mayLeafI = false then 130 else if totL (l.map (leafNodeI wd)) < 340282366920938463463374607431768211456 then 0 else 10
structure NwB (w : World) (wd : Int) (W : World) : Prop where
 h2 : W.heap[w.heap.size]? = some (.cells #[.int .i64 wd] 3 (0, 0))
 h4 : W.heap[w.heap.size + 1]? = some (.cells #[.pointer none] 25 (0, 0))
 h5 : W.heap[w.heap.size + 1 + 1]? = some (.cells #[.int .i64 0] 26 (0, 0))
 hB : Below w.heap.size w W
theorem NwB.lt {w W : World} {wd : Int} (h : NwB w wd W) : w.heap.size + 1 + 1 < W.heap.size := blk_lt h.h5
theorem NwB.keep {w W W' : World} {wd : Int} (h : NwB w wd W) (hk : ∀ k, k < w.heap.size + 3 → W'.heap[k]? = W.heap[k]?) (hB : Below w.heap.size w W') : NwB w wd W' := ⟨(hk _ (by omega)).trans h.h2, (hk _ (by omega)).trans h.h4, (hk _ (by omega)).trans h.h5, hB⟩
theorem NwB.below {w W W' : World} {wd : Int} (h : NwB w wd W) (hb : Below W.heap.size W W') : NwB w wd W' := h.keep (fun k hk => hb.block k (by have := h.lt; omega)) (h.hB.trans (hb.mono h.hB.size))
theorem NwB.grown {w X Y : World} {wd : Int} {row : Option Nat} (h : NwB w wd X) (hg : X.grownBy Y row) (hr : ∀ r, row = some r → w.heap.size + 3 ≤ r) : NwB w wd Y := by
 have hl := h.lt
 have hk : ∀ k, k < w.heap.size + 3 → Y.heap[k]? = X.heap[k]? := fun k hk => hg.block k (by omega) (fun e => by have := hr k e.symm; omega)
 exact h.keep hk ⟨hg.os.trans h.hB.os, hg.tape.trans h.hB.tape, hg.output.trans h.hB.output, Nat.le_trans h.hB.size hg.size, fun i hi => (hk i (by omega)).trans (h.hB.block i hi)⟩
theorem NwB.start (w : World) (wd : Int) : NwB w wd (((w.alloc (.cells #[.int .i64 wd] 3)).alloc (.cells #[.pointer none] 25)).alloc (.cells #[.int .i64 0] 26)) := by
 refine ⟨blk_alloc (blk_alloc (blk_new w _) _) _, blk_alloc ?_ _, ?_, below_alloc (below_alloc (below_alloc (Below.refl _ _) _) _) _⟩
 ·
  have := blk_new (w.alloc (.cells #[.int .i64 wd] 3)) (.cells #[.pointer none] 25); rwa [World.size_alloc] at this
 ·
  have := blk_new ((w.alloc (.cells #[.int .i64 wd] 3)).alloc (.cells #[.pointer none] 25)) (.cells #[.int .i64 0] 26); rwa [World.size_alloc, World.size_alloc] at this
theorem new_results (tmps : Array Value) (W : World) (g4 g5 : Nat) (v e : Value) (h4 : tmps.getD 4 undef = .pointer (some ⟨g4, 0, none⟩)) (h5 : tmps.getD 5 undef = .pointer (some ⟨g5, 0, none⟩)) (hg4 : W.heap[g4]? = some (.cells #[v] 25 (0, 0))) (hg5 : W.heap[g5]? = some (.cells #[e] 26 (0, 0))) :
  (results Tryd.f14 tmps).run Tryd.prog W = .ok (.tuple #[v, e]) W := by
 have h4' : tmps[4]?.getD undef = .pointer (some ⟨g4, 0, none⟩) := by simpa using h4
 have h5' : tmps[5]?.getD undef = .pointer (some ⟨g5, 0, none⟩) := by simpa using h5
 have hr : Tryd.f14.results = #[.cell 4 25, .cell 5 26] := rfl
 have hc : W.cell? ⟨g5, 0, none⟩ = some e := blk_cell hg5 0
 have hd : W.cell? ⟨g4, 0, none⟩ = some v := blk_cell hg4 0
 have hu := Tryd.underlying26
 have hu2 := Tryd.underlying25
 have h1 : (loadVar 25 ⟨g4, 0, none⟩).run Tryd.prog W = .ok v W := by go_simp
 have h2 : (loadVar 26 ⟨g5, 0, none⟩).run Tryd.prog W = .ok e W := by go_simp
 simp [results, hr, h4', h5', asAddr, h1, h2]
structure ButD (ds : List Nat) (W W' : World) : Prop where
 os : W'.os = W.os
 tape : W'.tape = W.tape
 output : W'.output = W.output
 size : W'.heap.size = W.heap.size
 heap : ∀ k, k ∉ ds → W'.heap[k]? = W.heap[k]?
abbrev markD (D : Nat) : Deferred := { target := .collected D, args := #[] }
theorem leavesD {fn : Func} {tmps : Array Value} {R : Ending → World → Prop} (v : Value) : ∀ (ds : List Nat) (W : World), ds.Nodup → (∀ D ∈ ds, W.heap[D]? = some (.deferred (some []))) → (∀ W', ButD ds W W' → (results fn tmps).run Tryd.prog W' = .ok v W' ∧ R (.returned v) W') → LeavesInM Fence.wide 3 Tryd.prog fn tmps R (ds.map markD) .returning W
 | [], W, _, _, h => by
  obtain ⟨h1, h2⟩ := h W ⟨rfl, rfl, rfl, rfl, fun _ _ => rfl⟩
  exact ⟨_, h1, h2⟩
 | D :: ds, W, hn, hd, h => by
  have hD := hd D (List.mem_cons_self ..)
  obtain ⟨h1, h2⟩ := List.nodup_cons.1 hn
  refine ⟨by simp, .inl ⟨_, _, rfl, run_takeDeferred hD, ?_⟩⟩
  refine leavesD v ds _ h2 (fun D' hD' => (World.putObj_heap_other (by intro e; subst e; exact h1 hD')).trans (hd D' (List.mem_cons_of_mem _ hD'))) (fun W' hW' => h W' ⟨hW'.os, hW'.tape, hW'.output, hW'.size.trans (by simp), fun k hk => ?_⟩)
  rw [hW'.heap k (fun e => hk (List.mem_cons_of_mem _ e))]
  exact World.putObj_heap_other (by intro e; subst e; exact hk (List.mem_cons_self ..))
theorem retD {fn : Func} {tmps : Array Value} {R : Ending → World → Prop} {ds : List Nat} {W : World} (v : Value) (hn : ds.Nodup) (hd : ∀ D ∈ ds, W.heap[D]? = some (.deferred (some []))) (h : ∀ W', ButD ds W W' → (results fn tmps).run Tryd.prog W' = .ok v W' ∧ R (.returned v) W') :
  bodyPostM Fence.wide 3 Tryd.prog fn R .ret { tmps := tmps, defers := ds.map markD } W := leavesD v ds W hn hd h
theorem ret0 {fn : Func} {tmps : Array Value} {R : Ending → World → Prop} {W : World} (v : Value) (h : (results fn tmps).run Tryd.prog W = .ok v W) (hR : R (.returned v) W) :
  bodyPostM Fence.wide 3 Tryd.prog fn R .ret { tmps := tmps, defers := [] } W := ⟨_, h, hR⟩
theorem NwB.put {w W : World} {wd : Int} (h : NwB w wd W) (v e : Value) : ((W.setCell ⟨w.heap.size + 1, 0, none⟩ v).setCell ⟨w.heap.size + 1 + 1, 0, none⟩ e).heap[w.heap.size + 1]? = some (.cells #[v] 25 (0, 0)) ∧
  ((W.setCell ⟨w.heap.size + 1, 0, none⟩ v).setCell ⟨w.heap.size + 1 + 1, 0, none⟩ e).heap[w.heap.size + 1 + 1]? = some (.cells #[e] 26 (0, 0)) ∧ Below w.heap.size w ((W.setCell ⟨w.heap.size + 1, 0, none⟩ v).setCell ⟨w.heap.size + 1 + 1, 0, none⟩ e) :=
 ⟨blk_far (blk_put h.h4 0 v rfl) (by (try dsimp only); omega) _, blk_put (blk_far h.h5 (by (try dsimp only); omega) _) 0 e rfl, below_set (below_set h.hB (by (try dsimp only); omega)) (by (try dsimp only); omega)⟩
abbrev acL (l : SLeaf) : Array Value := #[.bool l.f0, .string l.f1, .string l.f2, .int .u64 l.f3.f0, .int .u64 l.f3.f1]
theorem ownB {W W' : World} {base n size : Nat} {e : TypeId} {v : Value} {xs : List Value} (h : W.ownsRow base e size v n xs) (hb : Below W.heap.size W W') : W'.ownsRow base e size v n xs := by
 obtain ⟨hlen, h⟩ := h
 refine ⟨hlen, ?_⟩
 rcases h with h | ⟨g', cap', cur, hv, hbb, hg, hr⟩
 ·
  exact .inl h
 ·
  exact .inr ⟨g', cap', cur, hv, hbb, blk_below hg hb, hr⟩
theorem wp_forget {P : Program} {c : Code} {Q : Exit → Act → World → Prop} {a : Act} {W : World} (F : (Nat → Value) → Act) (ha : a = F (fun i => a.tmps.getD i undef)) (h : ∀ x, Code.wp P c Q (F x) W) : Code.wp P c Q a W := by
 rw [ha]; exact h _
structure Nw15 (W0 W : World) (wd : Int) (lf : List SLeaf) (l : Nat → Bool) (γ κ δ : Nat) : Prop where
 hB : Below W0.heap.size W0 W
 hl : l 2 = true → W0.heap.size ≤ γ ∧ γ < W.heap.size ∧ W.ownsRow W0.heap.size 36 5 (.slice (some ⟨γ, 0, none⟩) lf.length κ) lf.length (cellsL lf)
 o3 : l 3 = true → l 2 = true
 o4 : l 4 = true → l 2 = true
 o5 : l 5 = true → l 4 = true
 ht : l 4 = true → W0.heap.size ≤ δ ∧ δ ≠ γ ∧ W.heap[δ]? = some (.cells #[.int .i64 wd, .slice (some ⟨γ, 0, none⟩) lf.length κ, .slice none 0 0] 105 (0, 0))
theorem Nw15.same {W0 W : World} {wd : Int} {lf : List SLeaf} {l : Nat → Bool} {γ κ δ : Nat} (h : Nw15 W0 W wd lf l γ κ δ) (i : Nat) (h2 : i < 2) : Nw15 W0 W wd lf (upd l i) γ κ δ := by
 have e2 : upd l i 2 = l 2 := by unfold upd; rw [if_neg (by omega)]
 have e3 : upd l i 3 = l 3 := by unfold upd; rw [if_neg (by omega)]
 have e4 : upd l i 4 = l 4 := by unfold upd; rw [if_neg (by omega)]
 have e5 : upd l i 5 = l 5 := by unfold upd; rw [if_neg (by omega)]
 exact ⟨h.hB, by rw [e2]; exact h.hl, by rw [e2, e3]; exact h.o3, by rw [e2, e4]; exact h.o4, by rw [e5, e4]; exact h.o5, by rw [e4]; exact h.ht⟩
theorem Nw15.three {W0 W : World} {wd : Int} {lf : List SLeaf} {l : Nat → Bool} {γ κ δ : Nat} (h : Nw15 W0 W wd lf l γ κ δ) (h2 : l 2 = true) : Nw15 W0 W wd lf (upd l 3) γ κ δ :=
 ⟨h.hB, h.hl, fun _ => h2, h.o4, h.o5, h.ht⟩
theorem Nw15.five {W0 W : World} {wd : Int} {lf : List SLeaf} {l : Nat → Bool} {γ κ δ : Nat} (h : Nw15 W0 W wd lf l γ κ δ) (h4 : l 4 = true) : Nw15 W0 W wd lf (upd l 5) γ κ δ :=
 ⟨h.hB, h.hl, h.o3, h.o4, fun _ => h4, h.ht⟩
theorem Nw15.no3 {W0 W : World} {wd : Int} {lf : List SLeaf} {l : Nat → Bool} {γ κ δ : Nat} (h : Nw15 W0 W wd lf l γ κ δ) (h2 : l 2 = false) : l 3 = false := by
 cases hx : l 3 with
 | false => rfl
 | true => rw [h.o3 hx] at h2; cases h2
theorem Nw15.no5 {W0 W : World} {wd : Int} {lf : List SLeaf} {l : Nat → Bool} {γ κ δ : Nat} (h : Nw15 W0 W wd lf l γ κ δ) (h4 : l 4 = false) : l 5 = false := by
 cases hx : l 5 with
 | false => rfl
 | true => rw [h.o5 hx] at h4; cases h4
theorem Nw15.clone {W0 W W' : World} {wd : Int} {lf : List SLeaf} {l : Nat → Bool} {γ κ δ g cap : Nat} (h : Nw15 W0 W wd lf l γ κ δ) (h2 : l 2 = false) (hb : Below W.heap.size W W') (ho : W'.ownsRow W.heap.size 36 5 (.slice (some ⟨g, 0, none⟩) lf.length cap) lf.length (cellsL lf)) (hg : g < W'.heap.size) (hn : 1 ≤ lf.length) : Nw15 W0 W' wd lf (upd l 2) g cap δ := by
 have e4 : upd l 2 4 = l 4 := rfl
 have e3 : upd l 2 3 = l 3 := rfl
 have h4 : l 4 = false := by
  cases hx : l 4 with
  | false => rfl
  | true => rw [h.o4 hx] at h2; cases h2
 have hge : W.heap.size ≤ g := (ho.lt g rfl).1
 refine ⟨h.hB.trans (hb.mono h.hB.size), fun _ => ⟨Nat.le_trans h.hB.size hge, hg, ?_⟩, (fun _ => rfl), (fun _ => rfl), h.o5, fun h' => by rw [e4, h4] at h'; cases h'⟩
 obtain ⟨hlen, ho⟩ := ho
 refine ⟨hlen, ?_⟩
 rcases ho with ⟨h1, h2⟩ | ⟨g', cap', cur, hv, hbb, hr⟩
 ·
  exact .inl ⟨h1, h2⟩
 ·
  exact .inr ⟨g', cap', cur, hv, Nat.le_trans h.hB.size hbb, hr⟩
theorem Nw15.box {W0 W : World} {wd : Int} {lf : List SLeaf} {l : Nat → Bool} {γ κ δ : Nat} (h : Nw15 W0 W wd lf l γ κ δ) (h3' : l 3 = true) : Nw15 W0 (W.alloc (.cells #[.int .i64 wd, .slice (some ⟨γ, 0, none⟩) lf.length κ, .slice none 0 0] 105 (0, 0))) wd lf (upd l 4) γ κ W.heap.size := by
 have h2 := h.o3 h3'
 obtain ⟨h1, h3, h5⟩ := h.hl h2
 exact ⟨below_alloc h.hB _, fun _ => ⟨h1, by rw [World.size_alloc]; omega, ownB h5 (below_alloc (Below.refl _ _) _)⟩, h.o3, (fun _ => h2), (fun _ => rfl), fun _ => ⟨h.hB.size, by omega, blk_new W _⟩⟩
end Go.Proofs.YtfcodmdckcihmaaDoor.P
namespace Go.Proofs.YtfcodmdckcihmaaDoor.P
open Go.RowKit Go.Proofs.YtfcodmdckcihmaaDoorW.PrintWords Go.Proofs.YtfcodmdckcihmaaDoorW.PrintLast Go.Proofs.YtfcodmdckcihmaaDoorW.PrintMore
set_option linter.unusedVariables false
set_option linter.unusedSimpArgs false
set_option linter.unnecessarySimpa false
abbrev RowG := Nat × Nat
theorem levelInfo : (Tryd.prog.info? 109).map (fun i => (i.zero, i.size, i.bytes)) = some (some (.agg #[.slice none 0 0, .int .i64 0]), 2, 32) := by kernel_rfl
def cellsV : Nat → List RowG → List (List SNode) → List Value
 | i, p :: gs, r :: rs => .slice (some ⟨p.1, 0, none⟩) r.length p.2 :: .int .i64 (i : Int) :: cellsV (i + 1) gs rs
 | _, _, _ => []
theorem cellsV_snoc (p : RowG) (r : List SNode) : ∀ (i : Nat) (gs : List RowG) (rs : List (List SNode)), gs.length = rs.length → cellsV i (gs ++ [p]) (rs ++ [r]) = cellsV i gs rs ++ [.slice (some ⟨p.1, 0, none⟩) r.length p.2, .int .i64 ((i + rs.length : Nat) : Int)]
 | i, [], [], _ => rfl
 | i, _ :: gs, _ :: rs, h => by
  have := cellsV_snoc p r (i + 1) gs rs (by simpa using h)
  rw [List.cons_append, List.cons_append, cellsV, cellsV, this]
  simp only [List.cons_append, List.length_cons]
  rw [show i + 1 + rs.length = i + (rs.length + 1) by omega]
abbrev rowV (p : RowG) (r : List SNode) : Value := .slice (some ⟨p.1, 0, none⟩) r.length p.2
def OwnRows (W : World) (base : Nat) : List RowG → List (List SNode) → Prop
 | p :: gs, r :: rs => W.ownsRow base 46 3 (rowV p r) r.length (cellsN r) ∧ OwnRows W base gs rs
 | [], [] => True
 | _, _ => False
theorem OwnRows.len {W : World} {base : Nat} : ∀ {gs : List RowG} {rs : List (List SNode)}, OwnRows W base gs rs → gs.length = rs.length
 | [], [], _ => rfl
 | _ :: _, _ :: _, h => by rw [List.length_cons, List.length_cons, OwnRows.len h.2]
theorem OwnRows.snoc {W : World} {base : Nat} {p : RowG} {r : List SNode} (hr : W.ownsRow base 46 3 (rowV p r) r.length (cellsN r)) : ∀ {gs : List RowG} {rs : List (List SNode)}, OwnRows W base gs rs → OwnRows W base (gs ++ [p]) (rs ++ [r])
 | [], [], _ => ⟨hr, trivial⟩
 | _ :: _, _ :: _, h => ⟨h.1, h.2.snoc hr⟩
theorem OwnRows.keep {W W' : World} {base : Nat} : ∀ {gs : List RowG} {rs : List (List SNode)}, OwnRows W base gs rs → (∀ k ∈ gs.map Prod.fst, W'.heap[k]? = W.heap[k]?) → OwnRows W' base gs rs
 | [], [], _, _ => trivial
 | p :: gs, r :: rs, h, hk => ⟨own_keep h.1 (hk p.1 (by simp)), h.2.keep (fun k h => hk k (by simp at h ⊢; exact .inr h))⟩
theorem OwnRows.lt {W : World} {base : Nat} : ∀ {gs : List RowG} {rs : List (List SNode)}, OwnRows W base gs rs → ∀ k ∈ gs.map Prod.fst, base ≤ k ∧ k < W.heap.size
 | [], [], _, k, hk => by cases hk
 | p :: gs, r :: rs, h, k, hk => by
  rw [List.map_cons] at hk
  rcases List.mem_cons.1 hk with rfl | hk
  ·
   exact h.1.lt _ rfl
  ·
   exact h.2.lt k hk
theorem ownAny_keep {w w' : World} {base n size : Nat} {xs : List Value} {e : TypeId} {v : Value} (h : w.ownsRow base e size v n xs) (hk : ∀ g, v.ownBlock = some g → w'.heap[g]? = w.heap[g]?) : w'.ownsRow base e size v n xs := by
 obtain ⟨hlen, h⟩ := h
 refine ⟨hlen, ?_⟩
 rcases h with h | ⟨g', cap', cur, hv, hb, hg, hr⟩
 ·
  exact .inl h
 ·
  exact .inr ⟨_, cap', cur, hv, hb, (hk g' (by rw [hv]; rfl)).trans hg, hr⟩
theorem own_cells {w : World} {base n size : Nat} {xs : List Value} {e : TypeId} {v : Value} {g : Nat} (h : w.ownsRow base e size v n xs) (hg : v.ownBlock = some g) : ∃ cs, w.heap[g]? = some (.cells cs e (0, 0)) := by
 rcases h.2 with ⟨h, _⟩ | ⟨g', cap', cur, hv, hb, hg', hr⟩
 ·
  rw [h] at hg; cases hg
 ·
  rw [hv] at hg
  obtain rfl : g' = g := Option.some.inj hg
  exact ⟨cur, hg'⟩
structure NwT (w : World) (wd : Int) (lf : List SLeaf) (bt gl cl : Nat) (VV : Value) (gs : List RowG) (done : List (List SNode)) (ds : List Nat) (W : World) : Prop where
 bx : NwB w wd W
 ht : W.heap[bt]? = some (.cells #[.int .i64 wd, .slice (some ⟨gl, 0, none⟩) lf.length cl, VV] 105 (0, 0))
 hl : W.ownsRow (w.heap.size + 3) 36 5 (.slice (some ⟨gl, 0, none⟩) lf.length cl) lf.length (cellsL lf)
 hv : W.ownsRow (w.heap.size + 3) 109 2 VV done.length (cellsV 0 gs done)
 hg : OwnRows W (w.heap.size + 3) gs done
 ap : (bt :: gl :: gs.map Prod.fst).Nodup
 av : ∀ k, VV.ownBlock = some k → k ∉ bt :: gl :: gs.map Prod.fst
 lo : w.heap.size + 3 ≤ bt
 dn : ds.Nodup
 hd : ∀ D ∈ ds, W.heap[D]? = some (.deferred (some []))
structure NwT.Off (w : World) (bt gl : Nat) (VV : Value) (gs : List RowG) (W : World) (k : Nat) : Prop where
 lo : w.heap.size + 3 ≤ k
 ap : k ∉ bt :: gl :: gs.map Prod.fst
 av : VV.ownBlock ≠ some k
 cs : ∃ c t f, W.heap[k]? = some (.cells c t f)
theorem NwT.size {w : World} {wd : Int} {lf : List SLeaf} {bt gl cl : Nat} {VV : Value} {gs : List RowG} {done : List (List SNode)} {ds : List Nat} {W : World} (h : NwT w wd lf bt gl cl VV gs done ds W) : ∀ k ∈ bt :: gl :: gs.map Prod.fst, w.heap.size + 3 ≤ k ∧ k < W.heap.size := by
 intro k hk
 rcases List.mem_cons.1 hk with rfl | hk
 ·
  exact ⟨h.lo, blk_lt h.ht⟩
 rcases List.mem_cons.1 hk with rfl | hk
 ·
  exact h.hl.lt _ rfl
 ·
  exact h.hg.lt k hk
theorem NwT.keep {w : World} {wd : Int} {lf : List SLeaf} {bt gl cl : Nat} {VV : Value} {gs : List RowG} {done : List (List SNode)} {ds : List Nat} {W W' : World} (h : NwT w wd lf bt gl cl VV gs done ds W) (X : Nat → Prop) (hX : ∀ k, X k → NwT.Off w bt gl VV gs W k) (hk : ∀ k, k < W.heap.size → ¬ X k → W'.heap[k]? = W.heap[k]?) (hB : Below w.heap.size w W') : NwT w wd lf bt gl cl VV gs done ds W' := by
 have hs := h.size
 have hlt := h.bx.lt
 have hin : ∀ k ∈ bt :: gl :: gs.map Prod.fst, W'.heap[k]? = W.heap[k]? := fun k hm => hk k (hs k hm).2 (fun hx => (hX k hx).ap hm)
 refine ⟨h.bx.keep (fun k hlt2 => hk k (by omega) (fun hx => by have := (hX k hx).lo; omega)) hB, (hin bt (by simp)).trans h.ht, own_keep h.hl (hin gl (by simp)), ownAny_keep h.hv (fun g hg => hk g (h.hv.lt g hg).2 (fun hx => (hX g hx).av hg)), h.hg.keep (fun k hm => hin k (by simp at hm ⊢; exact .inr (.inr hm))), h.ap, h.av, h.lo, h.dn, fun D hD => ?_⟩
 have h1 := h.hd D hD
 refine (hk D (blk_lt h1) (fun hx => ?_)).trans h1
 obtain ⟨c, t, f, h2⟩ := (hX D hx).cs
 rw [h1] at h2
 cases h2
theorem NwT.below {w : World} {wd : Int} {lf : List SLeaf} {bt gl cl : Nat} {VV : Value} {gs : List RowG} {done : List (List SNode)} {ds : List Nat} {W W' : World} (h : NwT w wd lf bt gl cl VV gs done ds W) (hb : Below W.heap.size W W') : NwT w wd lf bt gl cl VV gs done ds W' :=
 h.keep (fun _ => False) (fun _ h => h.elim) (fun k hk _ => hb.block k hk) (h.bx.hB.trans (hb.mono h.bx.hB.size))
theorem below_grown {w X Y : World} {row : Option Nat} (h : Below w.heap.size w X) (hg : X.grownBy Y row) (hr : ∀ r, row = some r → w.heap.size ≤ r) : Below w.heap.size w Y :=
 ⟨hg.os.trans h.os, hg.tape.trans h.tape, hg.output.trans h.output, Nat.le_trans h.size hg.size, fun i hi => (hg.block i (lL' hi h.size) (fun e => by have := hr i e.symm; omega)).trans (h.block i hi)⟩
theorem NwT.grown {w : World} {wd : Int} {lf : List SLeaf} {bt gl cl : Nat} {VV : Value} {gs : List RowG} {done : List (List SNode)} {ds : List Nat} {W W' : World} {row : Option Nat} (h : NwT w wd lf bt gl cl VV gs done ds W) (hg : W.grownBy W' row) (hr : ∀ r, row = some r → NwT.Off w bt gl VV gs W r) : NwT w wd lf bt gl cl VV gs done ds W' :=
 h.keep (fun k => row = some k) hr (fun k hk hn => hg.block k hk (fun e => hn e.symm)) (below_grown h.bx.hB hg (fun r e => by have := (hr r e).lo; omega))
theorem NwT.level {w : World} {wd : Int} {lf : List SLeaf} {bt gl cl : Nat} {VV : Value} {gs : List RowG} {done : List (List SNode)} {ds : List Nat} {W W' : World} {p : RowG} {cur : List SNode} {g κ : Nat}
  (h : NwT w wd lf bt gl cl VV gs done ds W) (hc : W.ownsRow (w.heap.size + 3) 46 3 (rowV p cur) cur.length (cellsN cur)) (ho : NwT.Off w bt gl VV gs W p.1)
  (hk : ∀ k, k < W.heap.size → VV.ownBlock ≠ some k → W'.heap[k]? = W.heap[k]?) (hown : W'.ownsRow (w.heap.size + 3) 109 2 (.slice (some ⟨g, 0, none⟩) (done.length + 1) κ) (done.length + 1) (cellsV 0 gs done ++ [rowV p cur, .int .i64 (done.length : Int)]))
  (hgg : VV.ownBlock = some g ∨ W.heap.size ≤ g) (hB : Below w.heap.size w W') :
  NwT w wd lf bt gl cl (.slice (some ⟨g, 0, none⟩) (done.length + 1) κ) (gs ++ [p]) (done ++ [cur]) ds (W'.setCell ⟨bt, 2, none⟩ (.slice (some ⟨g, 0, none⟩) (done.length + 1) κ)) := by
 have hs := h.size
 have hlt := h.bx.lt
 have hbt := hs bt (by simp)
 have hnot : ∀ k ∈ bt :: gl :: gs.map Prod.fst, VV.ownBlock ≠ some k := fun k hm e => h.av k e hm
 have hin : ∀ k ∈ bt :: gl :: gs.map Prod.fst, W'.heap[k]? = W.heap[k]? := fun k hm => hk k (hs k hm).2 (hnot k hm)
 have hpc : W'.heap[p.1]? = W.heap[p.1]? := hk p.1 (hc.lt _ rfl).2 ho.av
 have hpn : p.1 ∉ bt :: gl :: gs.map Prod.fst := ho.ap
 have hset : ∀ k, k ≠ bt → (W'.setCell ⟨bt, 2, none⟩ (.slice (some ⟨g, 0, none⟩) (done.length + 1) κ)).heap[k]? = W'.heap[k]? := fun k hk => Below.heap_setCell _ _ _ _ hk
 have hgn : g ∉ bt :: gl :: (gs ++ [p]).map Prod.fst := by
  intro hm
  simp only [List.map_append, List.map_cons, List.map_nil, List.mem_cons, List.mem_append, List.not_mem_nil, or_false] at hm
  have hm2 : g ∈ bt :: gl :: gs.map Prod.fst ∨ g = p.1 := by
   simp only [List.mem_cons]
   rcases hm with h1 | h1 | h1 | h1
   ·
    exact .inl (.inl h1)
   ·
    exact .inl (.inr (.inl h1))
   ·
    exact .inl (.inr (.inr h1))
   ·
    exact .inr h1
  rcases hm2 with h1 | h1
  ·
   rcases hgg with h2 | h2
   ·
    exact hnot g h1 h2
   ·
    have := (hs g h1).2; omega
  ·
   rcases hgg with h2 | h2
   ·
    exact ho.av (h1 ▸ h2)
   ·
    have := (hc.lt _ rfl).2; rw [h1] at h2; exact absurd this (by show ¬ p.1 < _; omega)
 have hgbt : g ≠ bt := fun e => hgn (by rw [e]; simp)
 have hpbt : p.1 ≠ bt := fun e => hpn (by rw [e]; simp)
 have hglbt : gl ≠ bt := fun e => by have := h.ap; rw [e] at this; simp at this
 have hgsbt : ∀ k ∈ gs.map Prod.fst, k ≠ bt := fun k hm e => by
  have := (List.nodup_cons.1 h.ap).1
  exact this (by rw [← e]; exact List.mem_cons_of_mem _ hm)
 have hlen := h.hg.len
 refine ⟨(h.bx.keep (fun k hk2 => hk k (by omega) (fun e => by have := (h.hv.lt k e).1; omega)) hB).keep (fun k hk2 => hset k (by omega)) (hB.setCell (by show w.heap.size ≤ bt; omega) _), ?_, ?_, ?_, ?_, ?_, ?_, h.lo, h.dn, ?_⟩
 ·
  exact blk_put ((hin bt (by simp)).trans h.ht) 2 _ rfl
 ·
  exact own_keep (own_keep h.hl (hin gl (by simp))) (hset gl hglbt)
 ·
  rw [List.length_append, List.length_singleton, cellsV_snoc p cur 0 gs done hlen, Nat.zero_add]
  exact own_keep hown (hset g hgbt)
 ·
  refine OwnRows.snoc (own_keep (own_keep hc hpc) (hset _ hpbt)) ((h.hg.keep (fun k hm => hin k (by simp at hm ⊢; exact .inr (.inr hm)))).keep (fun k hm => hset k (hgsbt k hm)))
 ·
  simp only [List.map_append, List.map_cons, List.map_nil]
  rw [← List.cons_append, ← List.cons_append]
  exact List.nodup_append.2 ⟨h.ap, by simp, fun a ha b hb e => by
   obtain rfl := List.mem_singleton.1 hb
   exact hpn (e ▸ ha)⟩
 ·
  intro k hk2 hm
  obtain rfl : g = k := Option.some.inj hk2
  exact hgn hm
 ·
  intro D hD
  have h1 := h.hd D hD
  have hne : D ≠ bt := fun e => by rw [e] at h1; rw [h.ht] at h1; cases h1
  rw [hset D hne]
  refine (hk D (blk_lt h1) (fun e => ?_)).trans h1
  obtain ⟨cs, h2⟩ := own_cells h.hv e
  rw [h1] at h2
  cases h2
structure Nw16 (w W0 W : World) (wd : Int) (lf : List SLeaf) (bt gl cl : Nat) (VV : Value) (gs : List RowG) (done : List (List SNode)) (ds : List Nat) (p : RowG) (cur : List SNode) (l : Nat → Bool) (γ γ2 κ : Nat) : Prop where
 hA : l 14 = false → Below W0.heap.size W0 W
 hT : l 13 = true → l 14 = false → W.heap[γ]? = some (.cells #[rowV p cur, .int .i64 (done.length : Int)] 109 (0, 0))
 hP : l 14 = true → l 17 = false → (∀ k, k < W0.heap.size → VV.ownBlock ≠ some k → W.heap[k]? = W0.heap[k]?) ∧ W.ownsRow (w.heap.size + 3) 109 2 (.slice (some ⟨γ2, 0, none⟩) (done.length + 1) κ) (done.length + 1) (cellsV 0 gs done ++ [rowV p cur, .int .i64 (done.length : Int)]) ∧ (VV.ownBlock = some γ2 ∨ W0.heap.size ≤ γ2) ∧ Below w.heap.size w W
 hQ : l 17 = true → NwT w wd lf bt gl cl (.slice (some ⟨γ2, 0, none⟩) (done.length + 1) κ) (gs ++ [p]) (done ++ [cur]) ds W
 o11 : l 11 = true → l 10 = true
 o12 : l 12 = true → l 11 = true
 o13 : l 13 = true → l 12 = true
 o14 : l 14 = true → l 13 = true ∧ l 4 = true
 o17 : l 17 = true → l 14 = true
theorem upd_or {l : Nat → Bool} {i j : Nat} : upd l i j = true ↔ j = i ∨ l j = true := by
 unfold upd
 by_cases h : j = i
 ·
  rw [if_pos h]; simp [h]
 ·
  rw [if_neg h]; simp [h]
theorem upd_no {l : Nat → Bool} {i j : Nat} (h : j ≠ i) : upd l i j = l j := by unfold upd; rw [if_neg h]
section
variable {w W0 W : World} {wd : Int} {lf : List SLeaf} {bt gl cl : Nat} {VV : Value} {gs : List RowG} {done : List (List SNode)} {ds : List Nat} {p : RowG} {cur : List SNode} {l : Nat → Bool} {γ γ2 κ : Nat}
theorem Nw16.pure (h : Nw16 w W0 W wd lf bt gl cl VV gs done ds p cur l γ γ2 κ) (i : Nat) (hi : i ≠ 13 ∧ i ≠ 14 ∧ i ≠ 17) (h11 : i = 11 → l 10 = true) (h12 : i = 12 → l 11 = true) : Nw16 w W0 W wd lf bt gl cl VV gs done ds p cur (upd l i) γ γ2 κ := by
 have e13 : upd l i 13 = l 13 := upd_no (by omega)
 have e14 : upd l i 14 = l 14 := upd_no (by omega)
 have e17 : upd l i 17 = l 17 := upd_no (by omega)
 refine ⟨by rw [e14]; exact h.hA, by rw [e13, e14]; exact h.hT, by rw [e14, e17]; exact h.hP, by rw [e17]; exact h.hQ, ?_, ?_, ?_, ?_, ?_⟩
 ·
  intro hx
  rcases upd_or.1 hx with hx | hx
  ·
   exact upd_or.2 (.inr (h11 hx.symm))
  ·
   exact upd_or.2 (.inr (h.o11 hx))
 ·
  intro hx
  rcases upd_or.1 hx with hx | hx
  ·
   exact upd_or.2 (.inr (h12 hx.symm))
  ·
   exact upd_or.2 (.inr (h.o12 hx))
 ·
  rw [e13]; exact fun hx => upd_or.2 (.inr (h.o13 hx))
 ·
  rw [e14, e13]; exact fun hx => ⟨(h.o14 hx).1, upd_or.2 (.inr (h.o14 hx).2)⟩
 ·
  rw [e17, e14]; exact h.o17
theorem Nw16.no4 (h : Nw16 w W0 W wd lf bt gl cl VV gs done ds p cur l γ γ2 κ) (hl : l 4 = false) : l 14 = false := by
 cases hx : l 14 with
 | false => rfl
 | true => rw [(h.o14 hx).2] at hl; cases hl
theorem Nw16.no13 (h : Nw16 w W0 W wd lf bt gl cl VV gs done ds p cur l γ γ2 κ) (hl : l 13 = false) : l 14 = false := by
 cases hx : l 14 with
 | false => rfl
 | true => rw [(h.o14 hx).1] at hl; cases hl
theorem Nw16.no10 (h : Nw16 w W0 W wd lf bt gl cl VV gs done ds p cur l γ γ2 κ) (hl : l 10 = false) : l 14 = false := by
 refine h.no13 ?_
 cases hx : l 13 with
 | false => rfl
 | true => rw [h.o11 (h.o12 (h.o13 hx))] at hl; cases hl
theorem Nw16.no17 (h : Nw16 w W0 W wd lf bt gl cl VV gs done ds p cur l γ γ2 κ) (hl : l 14 = false) : l 17 = false := by
 cases hx : l 17 with
 | false => rfl
 | true => rw [h.o17 hx] at hl; cases hl
theorem Nw16.made (h : Nw16 w W0 W wd lf bt gl cl VV gs done ds p cur l γ γ2 κ) (hl : l 13 = false) (h12 : l 12 = true) : Nw16 w W0 (W.alloc (.cells #[rowV p cur, .int .i64 (done.length : Int)] 109 (0, 0))) wd lf bt gl cl VV gs done ds p cur (upd l 13) W.heap.size γ2 κ := by
 have h14 := h.no13 hl
 have h17 := h.no17 h14
 have e14 : upd l 13 14 = l 14 := rfl
 have e17 : upd l 13 17 = l 17 := rfl
 exact ⟨fun _ => below_alloc (h.hA h14) _, fun _ _ => blk_new W _, (fun hx => by rw [e14, h14] at hx; cases hx), (fun hx => by rw [e17, h17] at hx; cases hx), h.o11, h.o12, fun _ => h12, (fun hx => by rw [e14, h14] at hx; cases hx), h.o17⟩
theorem Nw16.appended {W' : World} {g κ' : Nat} (h : Nw16 w W0 W wd lf bt gl cl VV gs done ds p cur l γ γ2 κ) (h0 : NwT w wd lf bt gl cl VV gs done ds W0) (hl : l 14 = false) (h13 : l 13 = true) (h4 : l 4 = true) (hgr : W.grownBy W' VV.ownBlock)
  (hown : W'.ownsRow (w.heap.size + 3) 109 2 (.slice (some ⟨g, 0, none⟩) (done.length + 1) κ') (done.length + 1) (cellsV 0 gs done ++ [rowV p cur, .int .i64 (done.length : Int)])) (hgg : VV.ownBlock = some g ∨ g = W.heap.size) :
  Nw16 w W0 W' wd lf bt gl cl VV gs done ds p cur (upd l 14) γ g κ' := by
 have h17 := h.no17 hl
 have hb := h.hA hl
 have e17 : upd l 14 17 = l 17 := rfl
 have e14 : upd l 14 14 = true := rfl
 have hsz := hb.size
 refine ⟨(fun hx => by rw [e14] at hx; cases hx), (fun _ hx => by rw [e14] at hx; cases hx), fun _ _ => ⟨fun k hk hn => (hgr.block k (by omega) (fun e => hn e.symm)).trans (hb.block k hk), hown, ?_, ?_⟩, (fun hx => by rw [e17, h17] at hx; cases hx), h.o11, h.o12, h.o13, fun _ => ⟨h13, h4⟩, fun _ => rfl⟩
 ·
  rcases hgg with hx | hx
  ·
   exact .inl hx
  ·
   exact .inr (by omega)
 ·
  exact below_grown (h0.bx.hB.trans (hb.mono h0.bx.hB.size)) hgr (fun r e => by have := (h0.hv.lt r e).1; omega)
theorem Nw16.stored (h : Nw16 w W0 W wd lf bt gl cl VV gs done ds p cur l γ γ2 κ) (h0 : NwT w wd lf bt gl cl VV gs done ds W0) (hc : W0.ownsRow (w.heap.size + 3) 46 3 (rowV p cur) cur.length (cellsN cur)) (ho : NwT.Off w bt gl VV gs W0 p.1) (hl : l 17 = false) (h14 : l 14 = true) :
  Nw16 w W0 (W.setCell ⟨bt, 2, none⟩ (.slice (some ⟨γ2, 0, none⟩) (done.length + 1) κ)) wd lf bt gl cl VV gs done ds p cur (upd l 17) γ γ2 κ := by
 obtain ⟨p1, p2, p3, p4⟩ := h.hP h14 hl
 have e14 : upd l 17 14 = l 14 := rfl
 have e17 : upd l 17 17 = true := rfl
 exact ⟨(fun hx => by rw [e14, h14] at hx; cases hx), (fun _ hx => by rw [e14, h14] at hx; cases hx), (fun _ hx => by rw [e17] at hx; cases hx), fun _ => h0.level hc ho p1 p2 p3 p4, h.o11, h.o12, h.o13, h.o14, fun _ => h14⟩
end
theorem own_base {w : World} {base base' n size : Nat} {xs : List Value} {e : TypeId} {v : Value} (h : w.ownsRow base e size v n xs) (hb : base' ≤ base) : w.ownsRow base' e size v n xs := by
 obtain ⟨hlen, h⟩ := h
 refine ⟨hlen, ?_⟩
 rcases h with h | ⟨g', cap', cur, hv, hbb, hr⟩
 ·
  exact .inl h
 ·
  exact .inr ⟨g', cap', cur, hv, Nat.le_trans hb hbb, hr⟩
def lenT (a : Act) : Nat := match a.tmps.getD 8 undef with
 | .slice _ n _ => n
 | _ => 0
structure NwH (w : World) (wd : Int) (ls : List SLeaf) (bt gl cl : Nat) (gs : List RowG) (done : List (List SNode)) (ds : List Nat) (cur : List SNode) (gc cc : Nat) (A9 : Option Addr) (c9 : Nat) (V : World) : Prop where
 t : NwT w wd ls bt gl cl (.slice A9 done.length c9) gs done ds V
 c : V.ownsRow (w.heap.size + 3) 46 3 (rowV (gc, cc) cur) cur.length (cellsN cur)
 o : NwT.Off w bt gl (.slice A9 done.length c9) gs V gc
 k : ∃ k K, cur.length = 2 ^ k ∧ ls.length = 2 ^ K ∧ done.length + k = K ∧ done ++ levelsV wd k cur = levelsV wd K (ls.map (leafNodeI wd))
 n : ∀ x ∈ cur, NodeK wd x
 s : totL cur = totL (ls.map (leafNodeI wd))
 m : done.length ≤ 11 ∧ cur.length ≤ 1024 ∧ ls.length ≤ 1024
 d : ∀ D ∈ ds, w.heap.size ≤ D
theorem exec_append {P : Program} {oi : Oper} {a : Act} {w w' : World} {v : Value} (s x : Operand) (t : TypeId) (ho : oi.op = .call { callee := .builtin .append, args := #[s, x], argTypes := #[t, t] }) (v1 v2 : Value) (hs : a.eval s = v1) (hx : a.eval x = v2) (hr : (Builtin.append_ #[t, t] oi.type #[v1, v2]).run P w = .ok v w') :
  (execOp a.eval oi).run P w = .ok (.value v) w' := by
 unfold execOp
 simp only [ho, resolve, invoke, builtin, Sem.run_bind, Sem.run_pure, Result.andThen_ok, List.map_toArray, List.map_cons, List.map_nil, hs, hx, hr]
structure TreeOwn (base : Nat) (W : World) (a : Nat) (T : STree) (gl cl : Nat) (VV : Value) (gs : List RowG) : Prop where
 ht : W.heap[a]? = some (.cells #[.int .i64 T.wd, .slice (some ⟨gl, 0, none⟩) T.leaves.length cl, VV] 105 (0, 0))
 hl : W.ownsRow base 36 5 (.slice (some ⟨gl, 0, none⟩) T.leaves.length cl) T.leaves.length (cellsL T.leaves)
 hv : W.ownsRow base 109 2 VV T.rows.length (cellsV 0 gs T.rows)
 hg : OwnRows W base gs T.rows
 ap : (a :: gl :: gs.map Prod.fst).Nodup
 av : ∀ k, VV.ownBlock = some k → k ∉ a :: gl :: gs.map Prod.fst
 lo : base ≤ a
def treeT (wd : Int) (l : List SLeaf) : STree := ⟨wd, l, levelsV wd l.length.log2 (l.map (leafNodeI wd))⟩
def NewPost (w : World) (wd : Int) (l : List SLeaf) (e : Ending) (w' : World) : Prop :=
 Below w.heap.size w w' ∧ ((newI wd l = 0 ∧ ∃ a gl cl VV gs, e = .returned (.tuple #[ptrT a, .int .i64 0]) ∧ TreeOwn w.heap.size w' a (treeT wd l) gl cl VV gs) ∨ (newI wd l ≠ 0 ∧ e = .returned (.tuple #[.pointer none, .int .i64 (newI wd l)])))
theorem newErr {w W : World} {wd : Int} {l : List SLeaf} {tmps : Array Value} {e : Int} (h : NwB w wd W) (h4 : tmps.getD 4 undef = .pointer (some ⟨w.heap.size + 1, 0, none⟩)) (h5 : tmps.getD 5 undef = .pointer (some ⟨w.heap.size + 1 + 1, 0, none⟩)) (he : newI wd l = e) (hn : e ≠ 0) :
  Exit.noGoto (bodyPostM Fence.wide 3 Tryd.prog Tryd.f14 (NewPost w wd l)) Exit.ret { tmps := tmps, defers := [] } ((W.setCell ⟨w.heap.size + 1, 0, none⟩ (.pointer none)).setCell ⟨w.heap.size + 1 + 1, 0, none⟩ (.int .i64 e)) := by
 obtain ⟨p4, p5, pb⟩ := h.put (.pointer none) (.int .i64 e)
 exact ret0 _ (new_results _ _ _ _ _ _ h4 h5 p4 p5) ⟨pb, .inr ⟨by rw [he]; exact hn, by rw [he]⟩⟩
theorem ButD.below {w W W' : World} {ds : List Nat} (h : ButD ds W W') (hB : Below w.heap.size w W) (hd : ∀ D ∈ ds, w.heap.size ≤ D) : Below w.heap.size w W' :=
 ⟨h.os.trans hB.os, h.tape.trans hB.tape, h.output.trans hB.output, by rw [h.size]; exact hB.size, fun i hi => (h.heap i (fun e => by have := hd i e; omega)).trans (hB.block i hi)⟩
theorem OwnRows.cellsAt {W : World} {base : Nat} : ∀ {gs : List RowG} {rs : List (List SNode)}, OwnRows W base gs rs → ∀ k ∈ gs.map Prod.fst, ∃ c, W.heap[k]? = some (.cells c 46 (0, 0))
 | [], [], _, k, hk => by cases hk
 | p :: gs, r :: rs, h, k, hk => by
  rw [List.map_cons] at hk
  rcases List.mem_cons.1 hk with rfl | hk
  ·
   exact own_cells h.1 rfl
  ·
   exact h.2.cellsAt k hk
theorem OwnRows.base {W : World} {base base' : Nat} (hb : base' ≤ base) : ∀ {gs : List RowG} {rs : List (List SNode)}, OwnRows W base gs rs → OwnRows W base' gs rs
 | [], [], _ => trivial
 | _ :: _, _ :: _, h => ⟨own_base h.1 hb, h.2.base hb⟩
theorem newDone {w W : World} {wd : Int} {ls : List SLeaf} {bt gl cl : Nat} {VV : Value} {gs : List RowG} {done : List (List SNode)} {ds : List Nat} {tmps : Array Value} (h : NwT w wd ls bt gl cl VV gs done ds W) (hds : ∀ D ∈ ds, w.heap.size ≤ D)
  (h4 : tmps.getD 4 undef = .pointer (some ⟨w.heap.size + 1, 0, none⟩)) (h5 : tmps.getD 5 undef = .pointer (some ⟨w.heap.size + 1 + 1, 0, none⟩)) (hI : newI wd ls = 0) (hr : done = levelsV wd ls.length.log2 (ls.map (leafNodeI wd))) :
  Exit.noGoto (bodyPostM Fence.wide 3 Tryd.prog Tryd.f14 (NewPost w wd ls)) Exit.ret { tmps := tmps, defers := ds.map markD } ((W.setCell ⟨w.heap.size + 1, 0, none⟩ (ptrT bt)).setCell ⟨w.heap.size + 1 + 1, 0, none⟩ (.int .i64 0)) := by
 obtain ⟨p4, p5, pb⟩ := h.bx.put (ptrT bt) (.int .i64 0)
 have hs := h.size
 have hset : ∀ k, w.heap.size + 3 ≤ k → ((W.setCell ⟨w.heap.size + 1, 0, none⟩ (ptrT bt)).setCell ⟨w.heap.size + 1 + 1, 0, none⟩ (.int .i64 0)).heap[k]? = W.heap[k]? := fun k hk =>
  (Below.heap_setCell _ _ _ _ (by show k ≠ w.heap.size + 1 + 1; omega)).trans (Below.heap_setCell _ _ _ _ (by show k ≠ w.heap.size + 1; omega))
 have hdd : ∀ D ∈ ds, ∃ o, ((W.setCell ⟨w.heap.size + 1, 0, none⟩ (ptrT bt)).setCell ⟨w.heap.size + 1 + 1, 0, none⟩ (.int .i64 0)).heap[D]? = some (.deferred o) ∧ o = some [] := fun D hD => by
  have h1 := h.hd D hD
  have n1 : D ≠ w.heap.size + 1 := fun e => by rw [e, h.bx.h4] at h1; cases h1
  have n2 : D ≠ w.heap.size + 1 + 1 := fun e => by rw [e, h.bx.h5] at h1; cases h1
  exact ⟨_, (Below.heap_setCell _ _ _ _ n2).trans ((Below.heap_setCell _ _ _ _ n1).trans h1), rfl⟩
 refine retD (v := .tuple #[ptrT bt, .int .i64 0]) h.dn (fun D hD => by obtain ⟨o, h1, rfl⟩ := hdd D hD; exact h1) (fun W' hW' => ?_)
 have hno : ∀ (k : Nat) (c : Array Value) (t : TypeId) (f : Nat × Nat), ((W.setCell ⟨w.heap.size + 1, 0, none⟩ (ptrT bt)).setCell ⟨w.heap.size + 1 + 1, 0, none⟩ (.int .i64 0)).heap[k]? = some (Obj.cells c t f) → W'.heap[k]? = some (Obj.cells c t f) := fun k c t f hk => by
  rw [hW'.heap k (fun hD => ?_)]
  ·
   exact hk
  ·
   obtain ⟨o, h1, -⟩ := hdd k hD
   rw [hk] at h1
   cases h1
 have hsame : ∀ k, w.heap.size + 3 ≤ k → (∃ (c : Array Value) (t : TypeId) (f : Nat × Nat), W.heap[k]? = some (Obj.cells c t f)) → W'.heap[k]? = W.heap[k]? := fun k hk ⟨c, t, f, hc⟩ => by
  rw [hno k c t f ((hset k hk).trans hc), hc]
 refine ⟨new_results _ _ _ _ _ _ h4 h5 (hno _ _ _ _ p4) (hno _ _ _ _ p5), hW'.below pb hds, .inl ⟨hI, bt, gl, cl, VV, gs, rfl, ?_⟩⟩
 have hT : (treeT wd ls).rows = done := hr.symm
 have hgl := h.hl.lt gl rfl
 refine ⟨(hsame bt h.lo ⟨_, _, _, h.ht⟩).trans h.ht, own_base (own_keep h.hl (hsame gl hgl.1 (by obtain ⟨c, hc⟩ := own_cells h.hl rfl; exact ⟨_, _, _, hc⟩))) (Nat.le_add_right _ 3), ?_, ?_, h.ap, h.av, by have := h.lo; omega⟩
 ·
  rw [hT]
  refine own_base (ownAny_keep h.hv (fun g hg => hsame g (h.hv.lt g hg).1 ?_)) (Nat.le_add_right _ 3)
  obtain ⟨c, hc⟩ := own_cells h.hv hg
  exact ⟨_, _, _, hc⟩
 ·
  rw [hT]
  refine (h.hg.keep (fun k hk => hsame k (h.hg.lt k hk).1 ?_)).base (Nat.le_add_right _ 3)
  obtain ⟨c, hc⟩ := h.hg.cellsAt k hk
  exact ⟨_, _, _, hc⟩
theorem newErrD {w W : World} {wd : Int} {ls : List SLeaf} {ds : List Nat} {tmps : Array Value} {e : Int} (hB : Below w.heap.size w W) (hn : ds.Nodup) (hd : ∀ D ∈ ds, W.heap[D]? = some (.deferred (some []))) (hds : ∀ D ∈ ds, w.heap.size ≤ D)
  (h4 : tmps.getD 4 undef = .pointer (some ⟨w.heap.size + 1, 0, none⟩)) (h5 : tmps.getD 5 undef = .pointer (some ⟨w.heap.size + 1 + 1, 0, none⟩)) (p4 : W.heap[w.heap.size + 1]? = some (.cells #[.pointer none] 25 (0, 0))) (p5 : W.heap[w.heap.size + 1 + 1]? = some (.cells #[.int .i64 e] 26 (0, 0)))
  (hI : newI wd ls = e) (h0 : e ≠ 0) : Exit.noGoto (bodyPostM Fence.wide 3 Tryd.prog Tryd.f14 (NewPost w wd ls)) Exit.ret { tmps := tmps, defers := ds.map markD } W := by
 refine retD (v := .tuple #[.pointer none, .int .i64 e]) hn hd (fun W' hW' => ?_)
 have hno : ∀ (k : Nat) (c : Array Value) (t : TypeId) (f : Nat × Nat), W.heap[k]? = some (Obj.cells c t f) → W'.heap[k]? = some (Obj.cells c t f) := fun k c t f hk => by
  rw [hW'.heap k (fun hD => ?_)]
  ·
   exact hk
  ·
   have := hd k hD
   rw [hk] at this
   cases this
 exact ⟨new_results _ _ _ _ _ _ h4 h5 (hno _ _ _ _ p4) (hno _ _ _ _ p5), hW'.below hB hds, .inr ⟨by rw [hI]; exact h0, by rw [hI]⟩⟩
theorem NwH.one {w : World} {wd : Int} {ls : List SLeaf} {bt gl cl : Nat} {gs : List RowG} {done : List (List SNode)} {ds : List Nat} {cur : List SNode} {gc cc : Nat} {A9 : Option Addr} {c9 : Nat} {V : World} (h : NwH w wd ls bt gl cl gs done ds cur gc cc A9 c9 V) (h1 : cur.length = 1) :
  totL (ls.map (leafNodeI wd)) < 340282366920938463463374607431768211456 ∧ done ++ [cur] = levelsV wd ls.length.log2 (ls.map (leafNodeI wd)) := by
 obtain ⟨k, K, e1, e2, e3, e4⟩ := h.k
 have hk : k = 0 := by
  rcases Nat.eq_zero_or_pos k with h | h
  ·
   exact h
  ·
   have := Nat.pow_lt_pow_right (a := 2) (by decide) h; omega
 subst hk
 refine ⟨?_, ?_⟩
 ·
  rw [← h.s]
  match cur, h1, h.n with
  | [x], _, hn => have := valU_lt (hn x (by simp)).u; simp [totL]; exact this
 ·
  rw [e2, Nat.log2_two_pow, ← e4]; rfl
theorem newI_ok {wd : Int} {ls : List SLeaf} (hw : ¬ (wd < 1 ∨ 32 < wd)) (hp : isPow ls.length = true) (ha : ls.all mayLeafI = true) (ht : totL (ls.map (leafNodeI wd)) < 340282366920938463463374607431768211456) : newI wd ls = 0 := by
 unfold newI; rw [if_neg hw, if_neg (by rw [hp]; decide), if_neg (by rw [ha]; decide), if_pos ht]
theorem newI_full {wd : Int} {ls : List SLeaf} (hw : ¬ (wd < 1 ∨ 32 < wd)) (hp : isPow ls.length = true) (ha : ls.all mayLeafI = true) (ht : ¬ totL (ls.map (leafNodeI wd)) < 340282366920938463463374607431768211456) : newI wd ls = 10 := by
 unfold newI; rw [if_neg hw, if_neg (by rw [hp]; decide), if_neg (by rw [ha]; decide), if_neg ht]
end Go.Proofs.YtfcodmdckcihmaaDoor.P
namespace Go.Proofs.YtfcodmdckcihmaaDoor.P
open Go.RowKit Go.Proofs.YtfcodmdckcihmaaDoorW.PrintWords Go.Proofs.YtfcodmdckcihmaaDoorW.PrintLast Go.Proofs.YtfcodmdckcihmaaDoorW.PrintMore
set_option linter.unusedVariables false
set_option linter.unusedSimpArgs false
set_option linter.unnecessarySimpa false
structure NwBd (w : World) (bt gl : Nat) (VV : Value) (gs : List RowG) (ds : List Nat) (H : Nat) : Prop where
 l : ∀ k ∈ bt :: gl :: gs.map Prod.fst, k < H
 v : ∀ k, VV.ownBlock = some k → k < H
 b : w.heap.size + 3 ≤ H
 d : ∀ D ∈ ds, D < H
section
variable {w : World} {wd : Int} {ls : List SLeaf} {bt gl cl : Nat} {VV : Value} {gs : List RowG} {done : List (List SNode)} {ds : List Nat}
theorem NwT.bd {W : World} (h : NwT w wd ls bt gl cl VV gs done ds W) : NwBd w bt gl VV gs ds W.heap.size :=
 ⟨fun k hk => (h.size k hk).2, fun k hk => (h.hv.lt k hk).2, by have := h.bx.lt; omega, fun D hD => blk_lt (h.hd D hD)⟩
theorem NwT.upto {W W' : World} {H : Nat} (h : NwT w wd ls bt gl cl VV gs done ds W) (hb : NwBd w bt gl VV gs ds H) (hk : ∀ k, k < H → W'.heap[k]? = W.heap[k]?) (hB : Below w.heap.size w W') : NwT w wd ls bt gl cl VV gs done ds W' := by
 have hin : ∀ k ∈ bt :: gl :: gs.map Prod.fst, W'.heap[k]? = W.heap[k]? := fun k hm => hk k (hb.l k hm)
 refine ⟨h.bx.keep (fun k hlt2 => hk k (by have := hb.b; omega)) hB, (hin bt (by simp)).trans h.ht, own_keep h.hl (hin gl (by simp)), ownAny_keep h.hv (fun g hg => hk g (hb.v g hg)), h.hg.keep (fun k hm => hin k (by simp at hm ⊢; exact .inr (.inr hm))), h.ap, h.av, h.lo, h.dn, fun D hD => (hk D (hb.d D hD)).trans (h.hd D hD)⟩
structure NxS (w : World) (wd : Int) (ls : List SLeaf) (bt gl cl : Nat) (VV : Value) (gs : List RowG) (done : List (List SNode)) (ds : List Nat) (b12 H : Nat) (nx : List SNode) (V : World) : Prop where
 hH : b12 < H
 t : NwT w wd ls bt gl cl VV gs done ds V
 bd : NwBd w bt gl VV gs ds b12
 b : ∃ A c, V.heap[b12]? = some (.cells #[.slice A nx.length c] 43 (0, 0)) ∧ V.ownsRow H 46 3 (.slice A nx.length c) nx.length (cellsN nx)
theorem NxS.lt {b12 H : Nat} {nx : List SNode} {V : World} (h : NxS w wd ls bt gl cl VV gs done ds b12 H nx V) : b12 < V.heap.size := by
 obtain ⟨A, c, h1, -⟩ := h.b
 exact blk_lt h1
theorem NxS.below {b12 H : Nat} {nx : List SNode} {V V' : World} (h : NxS w wd ls bt gl cl VV gs done ds b12 H nx V) (hb : Below V.heap.size V V') : NxS w wd ls bt gl cl VV gs done ds b12 H nx V' := by
 obtain ⟨A, c, h1, h2⟩ := h.b
 exact ⟨h.hH, h.t.below hb, h.bd, A, c, blk_below h1 hb, ownB h2 hb⟩
theorem NxS.grown {b12 H : Nat} {nx : List SNode} {X Y : World} {row : Option Nat} (h : NxS w wd ls bt gl cl VV gs done ds b12 H nx X) (hg : X.grownBy Y row) (hr : ∀ r, row = some r → H ≤ r ∧ ∃ o, X.heap[r]? = some o ∧ o.isCells = false) : NxS w wd ls bt gl cl VV gs done ds b12 H nx Y := by
 obtain ⟨A, c, h1, h2⟩ := h.b
 have hlt := h.lt
 have hH := h.hH
 have hk : ∀ k, k < b12 + 1 → Y.heap[k]? = X.heap[k]? := fun k hk => hg.block k (by omega) (fun e => by have := (hr k e.symm).1; omega)
 refine ⟨h.hH, h.t.upto h.bd (fun k hk2 => hk k (by omega)) (below_grown h.t.bx.hB hg (fun r e => by have := (hr r e).1; have := h.bd.b; omega)), h.bd, A, c, (hk b12 (by omega)).trans h1, ownAny_keep h2 (fun g hg2 => hg.block g (h2.lt g hg2).2 (fun e => ?_))⟩
 obtain ⟨o, ho, hc⟩ := (hr g e.symm).2
 obtain ⟨cs, h3⟩ := own_cells h2 hg2
 rw [h3] at ho
 cases ho
 cases hc
theorem NxS.more {b12 H : Nat} {nx : List SNode} {V W' : World} {x : SNode} {A : Option Addr} {c : Nat} {A' : Option Addr} {c' : Nat} (h : NxS w wd ls bt gl cl VV gs done ds b12 H nx V) (h1 : V.heap[b12]? = some (.cells #[.slice A nx.length c] 43 (0, 0))) (h2 : V.ownsRow H 46 3 (.slice A nx.length c) nx.length (cellsN nx))
  (hgr : V.grownBy W' (Value.slice A nx.length c).ownBlock) (hown : W'.ownsRow H 46 3 (.slice A' (nx.length + 1) c') (nx.length + 1) (cellsN nx ++ [.string x.f0, .int .u64 x.f1.f0, .int .u64 x.f1.f1])) :
  NxS w wd ls bt gl cl VV gs done ds b12 H (nx ++ [x]) (W'.setCell ⟨b12, 0, none⟩ (.slice A' (nx.length + 1) c')) := by
 have hlt := h.lt
 have hH := h.hH
 have hk : ∀ k, k < b12 + 1 → W'.heap[k]? = V.heap[k]? := fun k hk => hgr.block k (by omega) (fun e => by have := (h2.lt k e.symm).1; omega)
 have hl : (nx ++ [x]).length = nx.length + 1 := by simp
 refine ⟨h.hH, h.t.upto h.bd (fun k hk2 => (Below.heap_setCell _ _ _ _ (by show k ≠ b12; omega)).trans (hk k (by omega))) ((below_grown h.t.bx.hB hgr (fun r e => by have := (h2.lt r e).1; have := h.bd.b; omega)).setCell (by have := h.bd.b; show w.heap.size ≤ b12; omega) _), h.bd, A', c', ?_, ?_⟩
 ·
  rw [hl]
  exact blk_put ((hk b12 (by omega)).trans h1) 0 _ rfl
 ·
  rw [hl, cellsN_append]
  exact ownAny_keep hown (fun g hg => Below.heap_setCell _ _ _ _ (by have := (hown.lt g hg).1; show g ≠ b12; omega))
end
theorem OwnRows.last {W : World} {base : Nat} {p : RowG} {r : List SNode} : ∀ {gs : List RowG} {rs : List (List SNode)}, gs.length = rs.length → OwnRows W base (gs ++ [p]) (rs ++ [r]) → W.ownsRow base 46 3 (rowV p r) r.length (cellsN r)
 | [], [], _, h => h.1
 | _ :: _, _ :: _, hl, h => OwnRows.last (by simpa using hl) h.2
structure NxE (w : World) (ds : List Nat) (V : World) : Prop where
 hB : Below w.heap.size w V
 h4 : V.heap[w.heap.size + 1]? = some (.cells #[.pointer none] 25 (0, 0))
 h5 : V.heap[w.heap.size + 1 + 1]? = some (.cells #[.int .i64 10] 26 (0, 0))
 hd : ∀ D ∈ ds, V.heap[D]? = some (.deferred (some []))
theorem NxE.grown {w : World} {ds : List Nat} {X Y : World} {H : Nat} {row : Option Nat} (h : NxE w ds X) (hg : X.grownBy Y row) (hr : ∀ r, row = some r → H ≤ r) (hH : w.heap.size + 3 ≤ H) (hd : ∀ D ∈ ds, D < H) : NxE w ds Y := by
 have h5 := blk_lt h.h5
 exact ⟨below_grown h.hB hg (fun r e => by have := hr r e; omega), (hg.block _ (by omega) (fun e => by have := hr _ e.symm; omega)).trans h.h4, (hg.block _ h5 (fun e => by have := hr _ e.symm; omega)).trans h.h5, fun D hD => (hg.block D (blk_lt (h.hd D hD)) (fun e => by have := hr _ e.symm; have := hd D hD; omega)).trans (h.hd D hD)⟩
theorem NxE.made {w : World} {wd : Int} {ls : List SLeaf} {bt gl cl : Nat} {VV : Value} {gs : List RowG} {done : List (List SNode)} {ds : List Nat} {W : World} (h : NwT w wd ls bt gl cl VV gs done ds W) : NxE w ds ((W.setCell ⟨w.heap.size + 1, 0, none⟩ (.pointer none)).setCell ⟨w.heap.size + 1 + 1, 0, none⟩ (.int .i64 10)) := by
 obtain ⟨p4, p5, pb⟩ := h.bx.put (.pointer none) (.int .i64 10)
 refine ⟨pb, p4, p5, fun D hD => ?_⟩
 have h1 := h.hd D hD
 have n1 : D ≠ w.heap.size + 1 := fun e => by rw [e, h.bx.h4] at h1; cases h1
 have n2 : D ≠ w.heap.size + 1 + 1 := fun e => by rw [e, h.bx.h5] at h1; cases h1
 exact (Below.heap_setCell _ _ _ _ n2).trans ((Below.heap_setCell _ _ _ _ n1).trans h1)
theorem NwH.next {w : World} {wd : Int} {ls : List SLeaf} {bt gl cl : Nat} {gs : List RowG} {done : List (List SNode)} {ds : List Nat} {cur : List SNode} {gc cc : Nat} {A9 : Option Addr} {c9 : Nat} {V V' : World} {γ2 κ2 m g c D b12 H : Nat}
  (h : NwH w wd ls bt gl cl gs done ds cur gc cc A9 c9 V) (hm : cur.length = 2 * m) (hm1 : 1 ≤ m) (hok : pairsOk cur = true) (hx : NxS w wd ls bt gl cl (.slice (some ⟨γ2, 0, none⟩) (done.length + 1) κ2) (gs ++ [(gc, cc)]) (done ++ [cur]) ds b12 H (pairsV wd cur) V')
  (hc : V'.ownsRow H 46 3 (.slice (some ⟨g, 0, none⟩) m c) m (cellsN (pairsV wd cur))) (hD : b12 ≤ D) (hdf : V'.heap[D]? = some (.deferred (some []))) :
  NwH w wd ls bt gl cl (gs ++ [(gc, cc)]) (done ++ [cur]) (D :: ds) (pairsV wd cur) g c (some ⟨γ2, 0, none⟩) κ2 V' := by
 have hl : (done ++ [cur]).length = done.length + 1 := by simp
 have hpl : (pairsV wd cur).length = m := pairsV_len wd m cur hm
 have hgl := hc.lt g rfl
 have hH := hx.hH
 obtain ⟨cs, hcs⟩ := own_cells hc rfl
 obtain ⟨k, K, e1, e2, e3, e4⟩ := h.k
 obtain ⟨k, rfl⟩ : ∃ j, k = j + 1 := by
  cases k with
  | zero => rw [e1] at hm; omega
  | succ k => exact ⟨k, rfl⟩
 have hK : K ≤ 10 := by
  rcases Nat.lt_or_ge 10 K with h1 | h1
  ·
   have h2 := Nat.pow_le_pow_right (n := 2) (by decide) (show 11 ≤ K by omega)
   have h3 : ls.length ≤ 1024 := h.m.2.2
   omega
  ·
   exact h1
 have hH2 := hx.hH
 rw [← hl] at hx
 refine ⟨⟨hx.t.bx, hx.t.ht, hx.t.hl, hx.t.hv, hx.t.hg, hx.t.ap, hx.t.av, hx.t.lo, List.nodup_cons.2 ⟨fun hm2 => by have := hx.bd.d D hm2; omega, hx.t.dn⟩, fun D' hD' => ?_⟩, ?_, ⟨by have := hx.bd.b; omega, fun hm2 => by have := hx.bd.l g hm2; omega, fun e => by have := hx.bd.v g e; omega, cs, _, _, hcs⟩, ⟨k, K, ?_, e2, by rw [hl]; omega, ?_⟩, pairsV_k m cur hm h.n hok, (pairsV_tot wd m cur hm).trans h.s, ⟨?_, by rw [hpl]; have := h.m.2.1; omega, h.m.2.2⟩, fun D' hD' => ?_⟩
 ·
  rcases List.mem_cons.1 hD' with rfl | hD'
  ·
   exact hdf
  ·
   exact hx.t.hd D' hD'
 ·
  have h0 := own_base hc (show w.heap.size + 3 ≤ H by have := hx.bd.b; omega)
  rw [rowV, hpl]
  exact h0
 ·
  rw [hpl]
  rw [e1, Nat.pow_succ] at hm
  omega
 ·
  rw [← e4, List.append_assoc]; rfl
 ·
  rw [hl]; omega
 ·
  rcases List.mem_cons.1 hD' with rfl | hD'
  ·
   have := hx.bd.b; omega
  ·
   exact h.d D' hD'
end Go.Proofs.YtfcodmdckcihmaaDoor.P
namespace Go.Proofs.YtfcodmdckcihmaaDoor.P
open Go.RowKit Go.Proofs.YtfcodmdckcihmaaDoorW.PrintWords Go.Proofs.YtfcodmdckcihmaaDoorW.PrintLast Go.Proofs.YtfcodmdckcihmaaDoorW.PrintMore
set_option linter.unusedVariables false
set_option linter.unusedSimpArgs false
set_option linter.unnecessarySimpa false
theorem rightS_mod (p : Int) (hp : 0 ≤ p) (h64 : p < 18446744073709551616) (k : Nat) : rightS p k = decide (p / 2 ^ k % 2 = 0) := by
 have h1 : 0 ≤ p / 2 ^ k := Int.ediv_nonneg hp (Int.le_of_lt (Int.pow_pos (by decide)))
 have h2 : p / 2 ^ k < 18446744073709551616 := Int.lt_of_le_of_lt (Int.ediv_le_self _ hp) h64
 unfold rightS
 rw [Lib.u64_and1 _ h1 h2, Bool.eq_iff_iff, beq_iff_eq, decide_eq_true_eq]
end Go.Proofs.YtfcodmdckcihmaaDoor.P
namespace Go.Proofs.YtfcodmdckcihmaaDoor.P
open Go.RowKit Go.Proofs.YtfcodmdckcihmaaDoorW.PrintWords Go.Proofs.YtfcodmdckcihmaaDoorW.PrintLast Go.Proofs.YtfcodmdckcihmaaDoorW.PrintMore
set_option linter.unusedVariables false
set_option linter.unusedSimpArgs false
set_option linter.unnecessarySimpa false
def stepV (w : Int) (n : SNode) (x : SNode × Bool) : SNode := if x.2 then joinV w n x.1 else joinV w x.1 n
def climbV (w : Int) : SNode → List (SNode × Bool) → SNode
 | n, [] => n
 | n, x :: xs => climbV w (stepV w n x) xs
theorem stepV_val (w : Int) (n : SNode) (x : SNode × Bool) : valU (stepV w n x).f1 = valU n.f1 + valU x.1.f1 := by
 unfold stepV; split <;> rw [joinV_val]; omega
theorem stepV_k {w : Int} {n : SNode} {x : SNode × Bool} (hn : NodeK w n) (hx : NodeK w x.1) (h : valU n.f1 + valU x.1.f1 < 340282366920938463463374607431768211456) : NodeK w (stepV w n x) := by
 unfold stepV; split
 ·
  exact joinV_k hn hx h
 ·
  exact joinV_k hx hn (by omega)
theorem stepI_room {w : Int} {n : SNode} {x : SNode × Bool} (hn : NodeK w n) (hx : NodeK w x.1) (h : valU n.f1 + valU x.1.f1 < 340282366920938463463374607431768211456) : stepI w n x = ((stepV w n x).f0, (stepV w n x).f1.f0, (stepV w n x).f1.f1, 0) := by
 unfold stepI stepV; split
 ·
  exact joinI_room hn hx h
 ·
  exact joinI_room hx hn (by omega)
theorem stepI_full {w : Int} {n : SNode} {x : SNode × Bool} (hn : NodeK w n) (hx : NodeK w x.1) (h : ¬ valU n.f1 + valU x.1.f1 < 340282366920938463463374607431768211456) : stepI w n x = (⟨#[]⟩, 0, 0, 10) := by
 unfold stepI; split
 ·
  exact joinI_full hn hx h
 ·
  exact joinI_full hx hn (by omega)
def totX (xs : List (SNode × Bool)) : Int := totL (xs.map (·.1))
theorem totX_cons (x : SNode × Bool) (xs) : totX (x :: xs) = valU x.1.f1 + totX xs := rfl
theorem totX_nn {w : Int} {xs : List (SNode × Bool)} (h : ∀ x ∈ xs, NodeK w x.1) : 0 ≤ totX xs := totL_nn fun y hy => by
 obtain ⟨x, hx, rfl⟩ := List.mem_map.1 hy; exact h x hx
theorem climbL_room {w : Int} : ∀ (xs : List (SNode × Bool)) (n : SNode), NodeK w n → (∀ x ∈ xs, NodeK w x.1) → valU n.f1 + totX xs < 340282366920938463463374607431768211456 →
  climbL w n xs = ((climbV w n xs).f0, (climbV w n xs).f1.f0, (climbV w n xs).f1.f1, 0) ∧ NodeK w (climbV w n xs) ∧ valU (climbV w n xs).f1 = valU n.f1 + totX xs
 | [], n, hn, _, _ => ⟨rfl, hn, by simp [climbV, totX, totL]⟩
 | x :: xs, n, hn, hx, h => by
  rw [totX_cons] at h
  have hx1 := hx x (by simp)
  have hxs : ∀ y ∈ xs, NodeK w y.1 := fun y hy => hx y (by simp [hy])
  have h0 := totX_nn hxs
  have hr : valU n.f1 + valU x.1.f1 < 340282366920938463463374607431768211456 := by omega
  have := climbL_room xs (stepV w n x) (stepV_k hn hx1 hr) hxs (by rw [stepV_val]; omega)
  rw [stepV_val] at this
  refine ⟨?_, this.2.1, by rw [climbV, totX_cons]; omega⟩
  rw [climbL, stepI_room hn hx1 hr, if_pos rfl, climbV]
  exact this.1
theorem climbL_full {w : Int} : ∀ (xs : List (SNode × Bool)) (n : SNode), NodeK w n → (∀ x ∈ xs, NodeK w x.1) → ¬ valU n.f1 + totX xs < 340282366920938463463374607431768211456 → climbL w n xs = (⟨#[]⟩, 0, 0, 10)
 | [], n, hn, _, h => by
  have := valU_lt hn.u
  exact absurd (by simp [totX, totL]; omega) h
 | x :: xs, n, hn, hx, h => by
  rw [totX_cons] at h
  have hx1 := hx x (by simp)
  have hxs : ∀ y ∈ xs, NodeK w y.1 := fun y hy => hx y (by simp [hy])
  by_cases hr : valU n.f1 + valU x.1.f1 < 340282366920938463463374607431768211456
  ·
   rw [climbL, stepI_room hn hx1 hr, if_pos rfl]
   exact climbL_full xs (stepV w n x) (stepV_k hn hx1 hr) hxs (by rw [stepV_val]; omega)
  ·
   rw [climbL, stepI_full hn hx1 hr, if_neg (by decide)]
theorem turnsTo_fst (p : Int) (l : List SNode) : (turnsTo p l l.length).map (·.1) = l := by
 unfold turnsTo
 rw [List.map_map]
 apply List.ext_getElem
 ·
  simp
 ·
  intro i h1 h2
  simp at h1
  simp [List.getD_eq_getElem?_getD, h1]
theorem turnsTo_k {w p : Int} {l : List SNode} (h : ∀ x ∈ l, NodeK w x) : ∀ x ∈ turnsTo p l l.length, NodeK w x.1 := fun x hx => by
 refine h _ ?_
 rw [← turnsTo_fst p l]
 exact List.mem_map.2 ⟨x, hx, rfl⟩
theorem totX_turns (p : Int) (l : List SNode) : totX (turnsTo p l l.length) = totL l := by unfold totX; rw [turnsTo_fst]
theorem climbI_room {w p : Int} {n : SNode} {l : List SNode} (hn : NodeK w n) (hl : ∀ x ∈ l, NodeK w x) (h63 : l.length ≤ 63) (h : valU n.f1 + totL l < 340282366920938463463374607431768211456) :
  climbI w n p l = ((climbV w n (turnsTo p l l.length)).f0, (climbV w n (turnsTo p l l.length)).f1.f0, (climbV w n (turnsTo p l l.length)).f1.f1, 0) ∧ NodeK w (climbV w n (turnsTo p l l.length)) ∧ valU (climbV w n (turnsTo p l l.length)).f1 = valU n.f1 + totL l := by
 have := climbL_room (turnsTo p l l.length) n hn (turnsTo_k hl) (by rw [totX_turns]; exact h)
 rw [totX_turns] at this
 unfold climbI
 rw [if_pos ⟨hn.of, List.all_eq_true.2 fun x hx => (hl x hx).of⟩, if_neg (by omega)]
 exact this
theorem climbI_full {w p : Int} {n : SNode} {l : List SNode} (hn : NodeK w n) (hl : ∀ x ∈ l, NodeK w x) (h63 : l.length ≤ 63) (h : ¬ valU n.f1 + totL l < 340282366920938463463374607431768211456) : climbI w n p l = (⟨#[]⟩, 0, 0, 10) := by
 unfold climbI
 rw [if_pos ⟨hn.of, List.all_eq_true.2 fun x hx => (hl x hx).of⟩, if_neg (by omega)]
 exact climbL_full _ n hn (turnsTo_k hl) (by rw [totX_turns]; exact h)
theorem climbV_append (w : Int) : ∀ (a b : List (SNode × Bool)) (n : SNode), climbV w n (a ++ b) = climbV w (climbV w n a) b
 | [], _, _ => rfl
 | x :: a, b, n => by rw [List.cons_append, climbV, climbV, climbV_append w a b]
def blkV (w : Int) (l : List SNode) (j q : Nat) : SNode := treeV w j ((l.drop (q * 2 ^ j)).take (2 ^ j))
theorem blkV_succ (w : Int) (l : List SNode) (j q : Nat) (h : (q + 1) * 2 ^ (j + 1) ≤ l.length) : blkV w l (j + 1) q = joinV w (blkV w l j (2 * q)) (blkV w l j (2 * q + 1)) := by
 have hp : 2 ^ (j + 1) = 2 ^ j + 2 ^ j := by rw [Nat.pow_succ]; omega
 unfold blkV
 rw [treeV, List.take_take, List.drop_take, List.drop_drop, Nat.min_eq_left (by rw [hp]; exact Nat.le_add_right _ _), show 2 ^ (j + 1) - 2 ^ j = 2 ^ j by rw [hp]; exact Nat.add_sub_cancel ..]
 have e1 : q * 2 ^ (j + 1) = 2 * q * 2 ^ j := by rw [Nat.pow_succ, Nat.mul_comm 2 q, Nat.mul_assoc, Nat.mul_comm 2]
 have e2 : (2 * q + 1) * 2 ^ j = q * 2 ^ (j + 1) + 2 ^ j := by rw [Nat.add_mul, Nat.one_mul, e1]
 rw [e2, e1]
def sideV (w : Int) (l : List SNode) (p j : Nat) : SNode := blkV w l j (if (p / 2 ^ j) % 2 = 1 then p / 2 ^ j - 1 else p / 2 ^ j + 1)
theorem totL_take_le {w : Int} {l : List SNode} (h : ∀ x ∈ l, NodeK w x) (a n : Nat) : totL ((l.drop a).take n) ≤ totL l := by
 have h1 := totL_append ((l.drop a).take n) ((l.drop a).drop n)
 rw [List.take_append_drop] at h1
 have h2 := totL_append (l.take a) (l.drop a)
 rw [List.take_append_drop] at h2
 have h3 := totL_nn (w := w) (l := (l.drop a).drop n) fun x hx => h x (List.mem_of_mem_drop (List.mem_of_mem_drop hx))
 have h4 := totL_nn (w := w) (l := l.take a) fun x hx => h x (List.mem_of_mem_take hx)
 omega
theorem blk_len {l : List SNode} {j q k : Nat} (hl : l.length = 2 ^ k) (hj : j ≤ k) (hq : q < 2 ^ (k - j)) : ((l.drop (q * 2 ^ j)).take (2 ^ j)).length = 2 ^ j ∧ (q + 1) * 2 ^ j ≤ l.length := by
 have h1 : (q + 1) * 2 ^ j ≤ 2 ^ (k - j) * 2 ^ j := Nat.mul_le_mul_right _ hq
 rw [← Nat.pow_add, Nat.sub_add_cancel hj] at h1
 have h2 : (q + 1) * 2 ^ j = q * 2 ^ j + 2 ^ j := by rw [Nat.add_mul, Nat.one_mul]
 rw [List.length_take, List.length_drop]
 omega
theorem rightS_nat (p j : Nat) (hp : p < 18446744073709551616) : rightS (p : Int) j = decide (p / 2 ^ j % 2 = 0) := by
 rw [rightS_mod (p : Int) (by omega) (by omega) j, decide_eq_decide]
 have e : ((p : Int) / 2 ^ j) = ((p / 2 ^ j : Nat) : Int) := by simp
 rw [e]
 omega
theorem climbV_place {w : Int} {l : List SNode} {k p : Nat} (hl : l.length = 2 ^ k) (hp : p < 2 ^ k) (h64 : p < 18446744073709551616) : ∀ j, j ≤ k → climbV w (l.getD p zeroN) ((List.range j).map fun i => (sideV w l p i, rightS (p : Int) i)) = blkV w l j (p / 2 ^ j)
 | 0, _ => by
  have h1 : p < l.length := by omega
  have h2 : l.drop p = l[p] :: l.drop (p + 1) := List.drop_eq_getElem_cons h1
  have h3 : l.getD p zeroN = l[p] := by simp [List.getD_eq_getElem?_getD, h1]
  rw [h3]
  unfold blkV treeV
  rw [show p / 2 ^ 0 * 2 ^ 0 = p by simp, h2]
  rfl
 | j + 1, h => by
  have ih := climbV_place (w := w) hl hp h64 j (by omega)
  have hq : p / 2 ^ j < 2 ^ (k - j) := by
   rw [Nat.div_lt_iff_lt_mul (Nat.two_pow_pos j), ← Nat.pow_add, Nat.sub_add_cancel (by omega)]; exact hp
  have hq1 : p / 2 ^ (j + 1) < 2 ^ (k - (j + 1)) := by
   rw [Nat.div_lt_iff_lt_mul (Nat.two_pow_pos _), ← Nat.pow_add, Nat.sub_add_cancel h]; exact hp
  have hd : p / 2 ^ (j + 1) = p / 2 ^ j / 2 := by rw [Nat.pow_succ, Nat.div_div_eq_div_mul]
  rw [List.range_succ, List.map_append, climbV_append, ih, blkV_succ w l j _ (blk_len hl h hq1).2, List.map_cons, List.map_nil, climbV, climbV, stepV, rightS_nat p j h64]
  rw [hd]
  unfold sideV
  generalize p / 2 ^ j = a at *
  by_cases ho : a % 2 = 0
  ·
   rw [decide_eq_true ho, if_pos rfl, if_neg (by omega), show 2 * (a / 2) = a by omega]
  ·
   rw [decide_eq_false ho, if_neg Bool.false_ne_true, if_pos (by omega), show 2 * (a / 2) = a - 1 by omega, show a - 1 + 1 = a by omega]
theorem climbV_val (w : Int) : ∀ (xs : List (SNode × Bool)) (n : SNode), valU (climbV w n xs).f1 = valU n.f1 + totX xs
 | [], n => by simp [climbV, totX, totL]
 | x :: xs, n => by rw [climbV, climbV_val w xs, stepV_val, totX_cons]; omega
theorem sideV_k {w : Int} {l : List SNode} {k p j : Nat} (hl : l.length = 2 ^ k) (hp : p < 2 ^ k) (hk : ∀ x ∈ l, NodeK w x) (ht : totL l < 340282366920938463463374607431768211456) (hj : j < k) : NodeK w (sideV w l p j) ∧
  (let b := if (p / 2 ^ j) % 2 = 1 then p / 2 ^ j - 1 else p / 2 ^ j + 1; (b + 1) * 2 ^ j ≤ l.length ∧ ((l.drop (b * 2 ^ j)).take (2 ^ j)).length = 2 ^ j) := by
 have hq : p / 2 ^ j < 2 ^ (k - j) := by
  rw [Nat.div_lt_iff_lt_mul (Nat.two_pow_pos j), ← Nat.pow_add, Nat.sub_add_cancel (by omega)]; exact hp
 have he : 2 ^ (k - j) = 2 * 2 ^ (k - j - 1) := by rw [← Nat.pow_succ']; congr 1; omega
 have hb : (if (p / 2 ^ j) % 2 = 1 then p / 2 ^ j - 1 else p / 2 ^ j + 1) < 2 ^ (k - j) := by
  generalize 2 ^ (k - j - 1) = z at he
  generalize p / 2 ^ j = y at hq ⊢
  split <;> omega
 obtain ⟨b1, b2⟩ := blk_len (l := l) hl (by omega) hb
 exact ⟨treeV_k j _ b1 (fun x hx => hk x (List.mem_of_mem_drop (List.mem_of_mem_take hx))) (Int.lt_of_le_of_lt (totL_take_le hk _ _) ht), b2, b1⟩
theorem climb_place {w : Int} {l S : List SNode} {k p : Nat} (hl : l.length = 2 ^ k) (hp : p < 2 ^ k) (hk : ∀ x ∈ l, NodeK w x) (ht : totL l < 340282366920938463463374607431768211456) (h63 : k ≤ 63) (hS : S = (List.range k).map (sideV w l p)) :
  climbI w (l.getD p zeroN) (p : Int) S = ((treeV w k l).f0, (treeV w k l).f1.f0, (treeV w k l).f1.f1, 0) := by
 have hn : NodeK w (l.getD p zeroN) := by
  have h1 : p < l.length := by omega
  have : l.getD p zeroN = l[p] := by simp [List.getD_eq_getElem?_getD, h1]
  rw [this]; exact hk _ (List.getElem_mem h1)
 have hlen : S.length = k := by rw [hS]; simp
 have hT : turnsTo (p : Int) S S.length = (List.range k).map fun i => (sideV w l p i, rightS (p : Int) i) := by
  rw [hlen, hS]
  unfold turnsTo
  refine List.map_congr_left fun i hi => ?_
  have := List.mem_range.1 hi
  simp [List.getD_eq_getElem?_getD, this]
 have h64 : p < 18446744073709551616 := Nat.lt_trans (lL' hp (Nat.pow_le_pow_right (by decide) h63)) (by decide)
 have hV := climbV_place (w := w) hl hp h64 k (Nat.le_refl _)
 rw [show p / 2 ^ k = 0 from Nat.div_eq_of_lt hp] at hV
 have hB : blkV w l k 0 = treeV w k l := by
  unfold blkV
  rw [Nat.zero_mul, List.drop_zero, ← hl, List.take_length]
 have hv := climbV_val w (turnsTo (p : Int) S S.length) (l.getD p zeroN)
 rw [totX_turns, hT, hV, hB, treeV_val k l hl] at hv
 have hSk : ∀ x ∈ S, NodeK w x := fun x hx => by
  rw [hS] at hx
  obtain ⟨i, hi, rfl⟩ := List.mem_map.1 hx
  exact (sideV_k hl hp hk ht (List.mem_range.1 hi)).1
 have := (climbI_room (p := (p : Int)) hn hSk (by omega) (by omega)).1
 rw [hT, hV, hB] at this
 exact this
end Go.Proofs.YtfcodmdckcihmaaDoor.P
namespace Go.Proofs.YtfcodmdckcihmaaDoor.P
open Go.RowKit Go.Proofs.YtfcodmdckcihmaaDoorW.PrintWords Go.Proofs.YtfcodmdckcihmaaDoorW.PrintLast Go.Proofs.YtfcodmdckcihmaaDoorW.PrintMore
set_option linter.unusedVariables false
set_option linter.unusedSimpArgs false
set_option linter.unnecessarySimpa false
structure FoS (w : World) (wd : Int) (W : World) : Prop where
 h2 : W.heap[w.heap.size]? = some (.cells #[.int .i64 wd] 3 (0, 0))
 h4 : W.heap[w.heap.size + 1]? = some (.cells #[.string ⟨#[]⟩, .int .u64 0, .int .u64 0] 46 (0, 0))
 hB : Below w.heap.size w W
theorem FoS.below {w W W' : World} {wd : Int} (h : FoS w wd W) (hb : Below W.heap.size W W') : FoS w wd W' := ⟨blk_below h.h2 hb, blk_below h.h4 hb, h.hB.trans (hb.mono h.hB.size)⟩
end Go.Proofs.YtfcodmdckcihmaaDoor.P
namespace Go.Proofs.YtfcodmdckcihmaaDoor.P
open Go.RowKit Go.Proofs.YtfcodmdckcihmaaDoorW.PrintWords Go.Proofs.YtfcodmdckcihmaaDoorW.PrintLast Go.Proofs.YtfcodmdckcihmaaDoorW.PrintMore
set_option linter.unusedVariables false
set_option linter.unusedSimpArgs false
set_option linter.unnecessarySimpa false
structure RFo (w W : World) : Prop where
 h4 : W.heap[w.heap.size]? = some (.cells #[.string ⟨#[]⟩, .int .u64 0, .int .u64 0] 46 (0, 0))
 hB : Below w.heap.size w W
theorem RFo.below {w W W' : World} (h : RFo w W) (hb : Below W.heap.size W W') : RFo w W' := ⟨blk_below h.h4 hb, h.hB.trans (hb.mono h.hB.size)⟩
end Go.Proofs.YtfcodmdckcihmaaDoor.P
namespace Go.Proofs.YtfcodmdckcihmaaDoor.P
open Go.RowKit Go.Proofs.YtfcodmdckcihmaaDoorW.PrintWords Go.Proofs.YtfcodmdckcihmaaDoorW.PrintLast Go.Proofs.YtfcodmdckcihmaaDoorW.PrintMore
set_option linter.unusedVariables false
set_option linter.unusedSimpArgs false
set_option linter.unnecessarySimpa false
def RefT (a : Nat) (wd : Int) (l : List SLeaf) (W : World) : Prop := ∃ LA cap, W.heap[a]? = some (.cells #[.int .i64 wd, .slice LA l.length cap] 118 (0, 0)) ∧ l.length ≤ cap ∧ Kd.C kLeaf W LA l.length l
theorem RefT.below {a : Nat} {wd : Int} {l : List SLeaf} {W W' : World} (h : RefT a wd l W) (hb : Below W.heap.size W W') : RefT a wd l W' := by
 obtain ⟨LA, cap, h1, h2, h3⟩ := h
 exact ⟨LA, cap, blk_below h1 hb, h2, Kd.C_below h3 hb⟩
def RefO (base a : Nat) (wd : Int) (l : List SLeaf) (W : World) : Prop := base ≤ a ∧ ∃ g cap, W.heap[a]? = some (.cells #[.int .i64 wd, .slice (some ⟨g, 0, none⟩) l.length cap] 118 (0, 0)) ∧ W.ownsRow base 36 5 (.slice (some ⟨g, 0, none⟩) l.length cap) l.length (cellsL l)
theorem RefO.read {base a : Nat} {wd : Int} {l : List SLeaf} {W : World} (h : RefO base a wd l W) : RefT a wd l W := by
 obtain ⟨_, g, cap, h1, h2⟩ := h
 exact ⟨some ⟨g, 0, none⟩, cap, h1, (ownLeaves_C h2).2.1, (ownLeaves_C h2).2.2⟩
theorem RefO.far {base a : Nat} {wd : Int} {l : List SLeaf} {W W' : World} (h : RefO base a wd l W) (hk : ∀ k, base ≤ k → k < W.heap.size → W'.heap[k]? = W.heap[k]?) : RefO base a wd l W' := by
 obtain ⟨h0, g, cap, h1, h2⟩ := h
 have hg := h2.lt g rfl
 exact ⟨h0, g, cap, (hk a h0 (blk_lt h1)).trans h1, own_keep h2 (hk g hg.1 hg.2)⟩
def RefPost (w : World) (wd : Int) (l : List SLeaf) (e : Ending) (w' : World) : Prop :=
 Below w.heap.size w w' ∧ ((newI wd l = 0 ∧ ∃ a, e = .returned (.tuple #[ptrT a, .int .i64 0]) ∧ RefO w.heap.size a wd l w') ∨ (newI wd l ≠ 0 ∧ e = .returned (.tuple #[.pointer none, .int .i64 (newI wd l)])))
theorem RefPost.err {w w' : World} {wd : Int} {l : List SLeaf} {e : Int} (h : newI wd l = e) (h0 : e ≠ 0) (hB : Below w.heap.size w w') : RefPost w wd l (.returned (.tuple #[.pointer none, .int .i64 e])) w' := ⟨hB, .inr ⟨by rw [h]; exact h0, by rw [h]⟩⟩
end Go.Proofs.YtfcodmdckcihmaaDoor.P
namespace Go.Proofs.YtfcodmdckcihmaaDoor.P
open Go.RowKit Go.Proofs.YtfcodmdckcihmaaDoorW.PrintWords Go.Proofs.YtfcodmdckcihmaaDoorW.PrintLast Go.Proofs.YtfcodmdckcihmaaDoorW.PrintMore
set_option linter.unusedVariables false
set_option linter.unusedSimpArgs false
set_option linter.unnecessarySimpa false
attribute [local go_sem] sel_true
structure NewOk (wd : Int) (l : List SLeaf) : Prop where
 w : 1 ≤ wd ∧ wd ≤ 32
 p : l.length = 2 ^ l.length.log2
 k : ∀ x ∈ l.map (leafNodeI wd), NodeK wd x
 t : totL (l.map (leafNodeI wd)) < 340282366920938463463374607431768211456
theorem newI_zero {wd : Int} {l : List SLeaf} (h : newI wd l = 0) (hl : ∀ x ∈ l, OkL x) : NewOk wd l := by
 unfold newI at h
 by_cases hw : wd < 1 ∨ 32 < wd
 ·
  rw [if_pos hw] at h; cases h
 rw [if_neg hw] at h
 cases hp : isPow l.length with
 | false => rw [hp, if_pos rfl] at h; cases h
 | true =>
  rw [hp, if_neg (by decide)] at h
  cases ha : l.all mayLeafI with
  | false => rw [ha, if_pos rfl] at h; cases h
  | true =>
   rw [ha, if_neg (by decide)] at h
   by_cases ht : totL (l.map (leafNodeI wd)) < 340282366920938463463374607431768211456
   ·
    refine ⟨by omega, ?_, ?_, ht⟩
    ·
     unfold isPow at hp
     exact (of_decide_eq_true hp).symm
    ·
     intro x hx
     obtain ⟨y, hy, rfl⟩ := List.mem_map.1 hx
     have h1 := List.all_eq_true.1 ha y hy
     refine ⟨?_, leafNodeI_ok wd y (hl y hy).ub⟩
     unfold leafNodeI
     rw [if_pos ⟨⟨by omega, by omega⟩, h1⟩]
     have e : ((dgI wd (leafTextI y)).size : Int) = wd := by rw [dgI_size _ _ (by omega) (by omega)]; omega
     simp only [nodeOf, e]
     simp
     omega
   ·
    rw [if_neg ht] at h; cases h
structure Rl3 (w W : World) (nodes : List SNode) (l : Nat → Bool) (A2 : Option Addr) (c2 : Nat) : Prop where
 hB : Below w.heap.size w W
 hg : l 8 = true → nodes.length ≤ c2 ∧ Kd.C kNode W A2 nodes.length nodes
 o9 : l 9 = true → l 8 = true
theorem Rl3.same {w W : World} {nodes : List SNode} {l : Nat → Bool} {A2 : Option Addr} {c2 : Nat} (h : Rl3 w W nodes l A2 c2) (i : Nat) (hi : i < 8) : Rl3 w W nodes (upd l i) A2 c2 := by
 have e8 : upd l i 8 = l 8 := upd_no (by omega)
 have e9 : upd l i 9 = l 9 := upd_no (by omega)
 exact ⟨h.hB, by rw [e8]; exact h.hg, by rw [e8, e9]; exact h.o9⟩
end Go.Proofs.YtfcodmdckcihmaaDoor.P
namespace Go.Proofs.YtfcodmdckcihmaaDoor.P
open Go.RowKit Go.Proofs.YtfcodmdckcihmaaDoorW.PrintWords Go.Proofs.YtfcodmdckcihmaaDoorW.PrintLast Go.Proofs.YtfcodmdckcihmaaDoorW.PrintMore
set_option linter.unusedVariables false
set_option linter.unusedSimpArgs false
set_option linter.unnecessarySimpa false
attribute [local go_sem] sel_true
structure RrS (w W2 W : World) (x : SNode) (m : Int) (l : Nat → Bool) : Prop where
 hC : l 10 = false → Below W2.heap.size W2 W
 hz : W.heap[w.heap.size]? = some (.cells (if l 10 = true then #[.string x.f0, .int .u64 x.f1.f0, .int .u64 x.f1.f1, .int .i64 m] else #[.string ⟨#[]⟩, .int .u64 0, .int .u64 0, .int .i64 0]) 41 (0, 0))
 hD : Below w.heap.size w W
 ho : l 10 = true → ∀ i, i < 10 → l i = true
theorem RrS.no {w W2 W : World} {x : SNode} {m : Int} {l : Nat → Bool} (h : RrS w W2 W x m l) {i : Nat} (hi : i < 10) (hl : l i = false) : l 10 = false := by
 cases h7 : l 10 with
 | false => rfl
 | true => rw [h.ho h7 i hi] at hl; cases hl
theorem RrS.other {w W2 W : World} {x : SNode} {m : Int} {l : Nat → Bool} (h : RrS w W2 W x m l) (i : Nat) (hi : i < 10) (hl : l i = false) : RrS w W2 W x m (upd l i) := by
 have h7 := h.no hi hl
 have e : upd l i 10 = l 10 := upd_no (by omega)
 refine ⟨fun _ => h.hC h7, by rw [e]; exact h.hz, h.hD, fun h' => by rw [e, h7] at h'; cases h'⟩
theorem RrS.store {w W2 W : World} {x : SNode} {m : Int} {l : Nat → Bool} (h : RrS w W2 W x m l) (h7 : l 10 = false) (ha : ∀ i, i < 10 → l i = true) :
  RrS w W2 ((((W.setCell ⟨w.heap.size, 0, none⟩ (.string x.f0)).setCell ⟨w.heap.size, 1, none⟩ (.int .u64 x.f1.f0)).setCell ⟨w.heap.size, 2, none⟩ (.int .u64 x.f1.f1)).setCell ⟨w.heap.size, 3, none⟩ (.int .i64 m)) x m (upd l 10) := by
 have hz := h.hz
 rw [h7, if_neg (by decide)] at hz
 have e : upd l 10 10 = true := rfl
 refine ⟨(fun h' => by rw [e] at h'; cases h'), ?_, below_set (below_set (below_set (below_set h.hD (Nat.le_refl _)) (Nat.le_refl _)) (Nat.le_refl _)) (Nat.le_refl _), fun _ i hi => by rw [upd_no (by omega)]; exact ha i hi⟩
 rw [e, if_pos rfl]
 exact blk_put (cs' := #[.string x.f0, .int .u64 x.f1.f0, .int .u64 x.f1.f1, .int .i64 m]) (blk_put (cs' := #[.string x.f0, .int .u64 x.f1.f0, .int .u64 x.f1.f1, .int .i64 0]) (blk_put (cs' := #[.string x.f0, .int .u64 x.f1.f0, .int .u64 0, .int .i64 0]) (blk_put (cs' := #[.string x.f0, .int .u64 0, .int .u64 0, .int .i64 0]) hz 0 (.string x.f0) rfl) 1 (.int .u64 x.f1.f0) rfl) 2 (.int .u64 x.f1.f1) rfl) 3 (.int .i64 m) rfl
theorem levels_top (wd : Int) (ls : List SLeaf) : topI (treeT wd ls) = (upV wd ls.length.log2 (ls.map (leafNodeI wd))).headD nodeZ := by
 have h : (treeT wd ls).rows = levelsV wd ls.length.log2 (ls.map (leafNodeI wd)) := rfl
 unfold topI
 rw [h, levelsV_len, Nat.add_sub_cancel, List.getD_eq_getElem?_getD, levelsV_get wd _ _ _ (Nat.le_refl _)]
 rfl
theorem nodeAt_tree (wd : Int) (ls : List SLeaf) (n : Nat) (hn : n ≤ ls.length.log2) (p : Int) : nodeAtI (treeT wd ls) (n : Int) p = ((upV wd n (ls.map (leafNodeI wd))).getD p.toNat nodeZ, decide (p.toNat < (upV wd n (ls.map (leafNodeI wd))).length)) := by
 have h : (treeT wd ls).rows = levelsV wd ls.length.log2 (ls.map (leafNodeI wd)) := rfl
 have hg : (levelsV wd ls.length.log2 (ls.map (leafNodeI wd))).getD n [] = upV wd n (ls.map (leafNodeI wd)) := by rw [List.getD_eq_getElem?_getD, levelsV_get wd _ _ _ hn]; rfl
 unfold nodeAtI
 rw [h, levelsV_len, if_pos ⟨by omega, by omega⟩, Int.toNat_natCast, hg]
end Go.Proofs.YtfcodmdckcihmaaDoor.P
namespace Go.Proofs.YtfcodmdckcihmaaDoor.P
open Go.RowKit Go.Proofs.YtfcodmdckcihmaaDoorW.PrintWords Go.Proofs.YtfcodmdckcihmaaDoorW.PrintLast Go.Proofs.YtfcodmdckcihmaaDoorW.PrintMore
set_option linter.unusedVariables false
set_option linter.unusedSimpArgs false
set_option linter.unnecessarySimpa false
theorem pairsV_set (w : Int) (x : SNode) : ∀ (m : Nat) (l : List SNode) (q : Nat), l.length = 2 * m → q < 2 * m → pairsV w (l.set q x) = (pairsV w l).set (q / 2) (if q % 2 = 1 then joinV w (l.getD (q - 1) zeroN) x else joinV w x (l.getD (q + 1) zeroN))
 | m + 1, a :: b :: l, 0, h, _ => rfl
 | m + 1, a :: b :: l, 1, h, _ => rfl
 | m + 1, a :: b :: l, q + 2, h, hq => by
  have ih := pairsV_set w x m l q (by simp at h; omega) (by omega)
  rw [List.set_cons_succ, List.set_cons_succ, pairsV, pairsV, ih, show (q + 2) / 2 = q / 2 + 1 by omega, show (q + 2) % 2 = q % 2 by omega, List.set_cons_succ]
  refine congrArg (fun z => joinV w a b :: (pairsV w l).set (q / 2) z) ?_
  by_cases h1 : q % 2 = 1
  ·
   rw [if_pos h1, if_pos h1, show q + 2 - 1 = (q - 1) + 1 + 1 by omega, List.getD_cons_succ, List.getD_cons_succ]
  ·
   rw [if_neg h1, if_neg h1, show q + 2 + 1 = (q + 1) + 1 + 1 by omega, List.getD_cons_succ, List.getD_cons_succ]
def besV (w : Int) (l : List SNode) (p i : Nat) : SNode := (upV w i l).getD (if p / 2 ^ i % 2 = 1 then p / 2 ^ i - 1 else p / 2 ^ i + 1) zeroN
def wayV (w : Int) (l : List SNode) (p : Nat) (x : SNode) : Nat → SNode
 | 0 => x
 | i + 1 => if p / 2 ^ i % 2 = 1 then joinV w (besV w l p i) (wayV w l p x i) else joinV w (wayV w l p x i) (besV w l p i)
theorem upV_len2 {w : Int} {K : Nat} {l : List SNode} (h : l.length = 2 ^ K) (i : Nat) (hi : i ≤ K) : (upV w i l).length = 2 ^ (K - i) := upV_len w i (K - i) l (by rw [h]; congr 1; omega)
theorem div_lt {p K i : Nat} (hp : p < 2 ^ K) (hi : i ≤ K) : p / 2 ^ i < 2 ^ (K - i) := by
 rw [Nat.div_lt_iff_lt_mul (Nat.two_pow_pos i), ← Nat.pow_add, show K - i + i = K by omega]; exact hp
theorem upV_set (w : Int) {K : Nat} {l : List SNode} (hl : l.length = 2 ^ K) {p : Nat} (hp : p < 2 ^ K) (x : SNode) : ∀ i, i ≤ K → upV w i (l.set p x) = (upV w i l).set (p / 2 ^ i) (wayV w l p x i)
 | 0, _ => by rw [Nat.pow_zero, Nat.div_one]; rfl
 | i + 1, hi => by
  have ih := upV_set w hl hp x i (by omega)
  have h1 := upV_len2 (w := w) hl i (by omega)
  have h2 : 2 ^ (K - i) = 2 * 2 ^ (K - (i + 1)) := by rw [show K - i = (K - (i + 1)) + 1 by omega, Nat.pow_succ, Nat.mul_comm]
  have h3 := div_lt hp (show i ≤ K by omega)
  have e : (if p / 2 ^ i % 2 = 1 then joinV w ((upV w i l).getD (p / 2 ^ i - 1) zeroN) (wayV w l p x i) else joinV w (wayV w l p x i) ((upV w i l).getD (p / 2 ^ i + 1) zeroN)) = wayV w l p x (i + 1) := by
   show _ = if p / 2 ^ i % 2 = 1 then joinV w (besV w l p i) (wayV w l p x i) else joinV w (wayV w l p x i) (besV w l p i)
   unfold besV
   by_cases h : p / 2 ^ i % 2 = 1
   ·
    rw [if_pos h, if_pos h, if_pos h]
   ·
    rw [if_neg h, if_neg h, if_neg h]
  rw [upV_succ, upV_succ, ih, pairsV_set w _ (2 ^ (K - (i + 1))) _ _ (h1.trans h2) (by omega), Nat.div_div_eq_div_mul, ← Nat.pow_succ, e]
theorem upV_tot (w : Int) {K : Nat} {l : List SNode} (hl : l.length = 2 ^ K) : ∀ i, i ≤ K → totL (upV w i l) = totL l
 | 0, _ => rfl
 | i + 1, hi => by
  have h1 := upV_len2 (w := w) hl i (by omega)
  rw [upV_succ, pairsV_tot w (2 ^ (K - (i + 1))) _ (by rw [h1, show K - i = (K - (i + 1)) + 1 by omega, Nat.pow_succ, Nat.mul_comm]), upV_tot w hl i (by omega)]
theorem besV_k {w : Int} {K : Nat} {l : List SNode} (hl : l.length = 2 ^ K) (hk : ∀ x ∈ l, NodeK w x) (ht : totL l < 340282366920938463463374607431768211456) {p : Nat} (hp : p < 2 ^ K) (i : Nat) (hi : i < K) : NodeK w (besV w l p i) ∧ (if p / 2 ^ i % 2 = 1 then p / 2 ^ i - 1 else p / 2 ^ i + 1) < (upV w i l).length := by
 have h1 := upV_len2 (w := w) hl i (by omega)
 have h2 := div_lt hp (show i ≤ K by omega)
 have h3 : 2 ^ (K - i) = 2 * 2 ^ (K - (i + 1)) := by rw [show K - i = (K - (i + 1)) + 1 by omega, Nat.pow_succ, Nat.mul_comm]
 have h5 := (up_ok hl hk ht i (by omega)).2.1
 have h6 : (if p / 2 ^ i % 2 = 1 then p / 2 ^ i - 1 else p / 2 ^ i + 1) < (upV w i l).length := by
  rw [h1, h3]
  rw [h3] at h2
  generalize p / 2 ^ i = a at h2 ⊢
  generalize 2 ^ (K - (i + 1)) = b at h2 ⊢
  split <;> omega
 refine ⟨?_, h6⟩
 unfold besV
 rw [List.getD_eq_getElem?_getD, List.getElem?_eq_getElem h6]
 exact h5 _ (List.getElem_mem h6)
def setI (wd : Int) (l : List SLeaf) (p : Nat) (x : SLeaf) : Int :=
 if l.length ≤ p then 2 else if mayLeafI x = false then 130 else if totL ((l.set p x).map (leafNodeI wd)) < 340282366920938463463374607431768211456 then 0 else 10
def setL (wd : Int) (l : List SLeaf) (p : Nat) (x : SLeaf) : List SLeaf := if setI wd l p x = 0 then l.set p x else l
end Go.Proofs.YtfcodmdckcihmaaDoor.P
