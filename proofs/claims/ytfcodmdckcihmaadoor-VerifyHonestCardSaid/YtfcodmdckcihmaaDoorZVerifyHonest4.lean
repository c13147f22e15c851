/- PROVED HERE: the Go function paymasterlaw17.VerifyHonest returns true for every input that the given statement speaks of, and each argument reads behind the call as it read before. Conditions: none beyond the given statement's own (the laid table of constants, tied by the card). -/
-- Several texts of this workplace as one.
import Derived.Test.YtfcodmdckcihmaaDoorZVerifyHonest3
import Derived.Test.YtfcodmdckcihmaaDoorProg
import Derived.Deep.OwnRows
import Derived.Laws.Rows
import Derived.Test.YtfcodmdckcihmaaDoorRows
import Derived.Test.YtfcodmdckcihmaaDoorCards
import Derived.Test.YtfcodmdckcihmaaDoorTie
namespace Go.Proofs.YtfcodmdckcihmaaDoor.P
open Go.RowKit Go.Proofs.YtfcodmdckcihmaaDoorW.PrintWords Go.Proofs.YtfcodmdckcihmaaDoorW.PrintLast Go.Proofs.YtfcodmdckcihmaaDoorW.PrintMore
set_option linter.unusedVariables false
set_option linter.unusedSimpArgs false
set_option linter.unnecessarySimpa false
attribute [local go_sem high] eqANode heqRoot eqALeaf
attribute [local go_sem] sel_true
structure AtV (w w' : World) (g5 g9 g13 : Nat) (o r s : SRoot) (ap : Addr) (e : SEntry) (A : Option Addr) (c : Nat) : Prop where
 b : Below w.heap.size w w'
 o5 : w'.heap[g5]? = some (.cells #[.string o.f0, .int .u64 o.f1.f0, .int .u64 o.f1.f1, .int .i64 o.f2] 41 (0, 0))
 r9 : w'.heap[g9]? = some (.cells #[.string r.f0, .int .u64 r.f1.f0, .int .u64 r.f1.f1, .int .i64 r.f2] 41 (0, 0))
 s13 : w'.heap[g13]? = some (.cells #[.string s.f0, .int .u64 s.f1.f0, .int .u64 s.f1.f1, .int .i64 s.f2] 41 (0, 0))
 e0 : w'.cell? ap = some (.bool e.f0.f0)
 e1 : w'.cell? ⟨ap.block, ap.off + 1, none⟩ = some (.string e.f0.f1)
 e2 : w'.cell? ⟨ap.block, ap.off + 2, none⟩ = some (.string e.f0.f2)
 e3 : w'.cell? ⟨ap.block, ap.off + 3, none⟩ = some (.int .u64 e.f0.f3.f0)
 e4 : w'.cell? ⟨ap.block, ap.off + 4, none⟩ = some (.int .u64 e.f0.f3.f1)
 e5 : w'.cell? ⟨ap.block, ap.off + 5, none⟩ = some (.int .u64 e.f1.f0)
 e6 : w'.cell? ⟨ap.block, ap.off + 6, none⟩ = some (.slice A e.f1.f1.length c)
 cc : e.f1.f1.length ≤ c
 s : Kd.C kNode w' A e.f1.f1.length e.f1.f1
section
variable {w W w' : World} {g5 g9 g13 : Nat} {o r s : SRoot} {ap : Addr} {e : SEntry} {A : Option Addr} {c : Nat}
theorem AtV.keep (k : Below W.heap.size W w') (h : AtV w W g5 g9 g13 o r s ap e A c) : AtV w w' g5 g9 g13 o r s ap e A c :=
 ⟨h.b.trans (k.mono h.b.size), blk_below h.o5 k, blk_below h.r9 k, blk_below h.s13 k, pw_cell_below k h.e0, pw_cell_below k h.e1, pw_cell_below k h.e2, pw_cell_below k h.e3, pw_cell_below k h.e4, pw_cell_below k h.e5, pw_cell_below k h.e6, h.cc, Kd.C_below h.s k⟩
theorem AtV.of {C : Prop} (h : C ∧ AtV w W g5 g9 g13 o r s ap e A c) : AtV w W g5 g9 g13 o r s ap e A c := h.2
abbrev AtVC (w' : World) (g5 g9 g13 : Nat) (o r s : SRoot) (ap : Addr) (e : SEntry) (A : Option Addr) (n c : Nat) : Prop :=
 (w'.cell? ⟨g5, 0, none⟩ = some (.string o.f0) ∧ w'.cell? ⟨g5, 1, none⟩ = some (.int .u64 o.f1.f0) ∧ w'.cell? ⟨g5, 2, none⟩ = some (.int .u64 o.f1.f1) ∧ w'.cell? ⟨g5, 3, none⟩ = some (.int .i64 o.f2)) ∧
 (w'.cell? ⟨g9, 0, none⟩ = some (.string r.f0) ∧ w'.cell? ⟨g9, 1, none⟩ = some (.int .u64 r.f1.f0) ∧ w'.cell? ⟨g9, 2, none⟩ = some (.int .u64 r.f1.f1) ∧ w'.cell? ⟨g9, 3, none⟩ = some (.int .i64 r.f2)) ∧
 (w'.cell? ⟨g13, 0, none⟩ = some (.string s.f0) ∧ w'.cell? ⟨g13, 1, none⟩ = some (.int .u64 s.f1.f0) ∧ w'.cell? ⟨g13, 2, none⟩ = some (.int .u64 s.f1.f1) ∧ w'.cell? ⟨g13, 3, none⟩ = some (.int .i64 s.f2)) ∧
 (w'.cell? ap = some (.bool e.f0.f0) ∧ w'.cell? ⟨ap.block, ap.off + 1, none⟩ = some (.string e.f0.f1) ∧ w'.cell? ⟨ap.block, ap.off + 2, none⟩ = some (.string e.f0.f2) ∧ w'.cell? ⟨ap.block, ap.off + 3, none⟩ = some (.int .u64 e.f0.f3.f0) ∧ w'.cell? ⟨ap.block, ap.off + 4, none⟩ = some (.int .u64 e.f0.f3.f1) ∧ w'.cell? ⟨ap.block, ap.off + 5, none⟩ = some (.int .u64 e.f1.f0) ∧ w'.cell? ⟨ap.block, ap.off + 6, none⟩ = some (.slice A n c))
theorem AtV.cells {n : Nat} (h : AtV w w' g5 g9 g13 o r s ap e A c) (hn : e.f1.f1.length = n) : AtVC w' g5 g9 g13 o r s ap e A n c ∧ AtV w w' g5 g9 g13 o r s ap e A c := by
 subst hn
 exact ⟨⟨⟨(blk_cell h.o5 0).trans rfl, (blk_cell h.o5 1).trans rfl, (blk_cell h.o5 2).trans rfl, (blk_cell h.o5 3).trans rfl⟩, ⟨(blk_cell h.r9 0).trans rfl, (blk_cell h.r9 1).trans rfl, (blk_cell h.r9 2).trans rfl, (blk_cell h.r9 3).trans rfl⟩, ⟨(blk_cell h.s13 0).trans rfl, (blk_cell h.s13 1).trans rfl, (blk_cell h.s13 2).trans rfl, (blk_cell h.s13 3).trans rfl⟩, h.e0, h.e1, h.e2, h.e3, h.e4, h.e5, h.e6⟩, h⟩
theorem AtV.check {n : Nat} (h : AtV w w' g5 g9 g13 o r s ap e A c) (hK : LaidT w) (hn : e.f1.f1.length = n) (he : OkE e) (x0 : ByteArray) (x1 x2 x3 v : Int) (hv : checkI ⟨x0, ⟨x1, x2⟩, x3⟩ e = v) :
  Calls Tryd.prog 44 #[.agg #[.string x0, .int .u64 x1, .int .u64 x2, .int .i64 x3], .agg #[.bool e.f0.f0, .string e.f0.f1, .string e.f0.f2, .int .u64 e.f0.f3.f0, .int .u64 e.f0.f3.f1, .int .u64 e.f1.f0, .slice A n c]] w' fun e w2 => e = .returned (.int .i64 v) ∧ Below w'.heap.size w' w2 := by
 subst hn hv
 exact verify_Check.calls x0 x1 x2 x3 e.f0.f0 e.f0.f1 e.f0.f2 e.f0.f3.f0 e.f0.f3.f1 e.f1.f0 A c e.f1.f1 _ w' (hK.below h.b) h.s h.cc (verifyCheck_eq ⟨x0, ⟨x1, x2⟩, x3⟩ e he)
end
theorem bne_form (ta ta' : List UInt8) (b b' c c' d d' : Int) : (!(ta == ta') || ((!(b == b') || !(c == c')) || !(d == d'))) = !(ta == ta' && ((b == b' && c == c') && d == d')) := by
 cases (ta == ta') <;> cases (b == b') <;> cases (c == c') <;> cases (d == d') <;> rfl
theorem ent_at {w : World} {A : Option Addr} {ls : List SEntry} {n : Nat} (h : Kd.C kEntry w A n ls) (hn : ls.length = n) (i : Nat) (hi : i < ls.length) : ∃ ad A6 c6, A = some ad ∧ ls[i].f1.f1.length ≤ c6 ∧ w.cell? (ad.add (i * 7)) = some (.bool ls[i].f0.f0) ∧ w.cell? ⟨(ad.add (i * 7)).block, (ad.add (i * 7)).off + 1, none⟩ = some (.string ls[i].f0.f1) ∧ w.cell? ⟨(ad.add (i * 7)).block, (ad.add (i * 7)).off + 2, none⟩ = some (.string ls[i].f0.f2) ∧ w.cell? ⟨(ad.add (i * 7)).block, (ad.add (i * 7)).off + 3, none⟩ = some (.int .u64 ls[i].f0.f3.f0) ∧ w.cell? ⟨(ad.add (i * 7)).block, (ad.add (i * 7)).off + 4, none⟩ = some (.int .u64 ls[i].f0.f3.f1) ∧ w.cell? ⟨(ad.add (i * 7)).block, (ad.add (i * 7)).off + 5, none⟩ = some (.int .u64 ls[i].f1.f0) ∧ w.cell? ⟨(ad.add (i * 7)).block, (ad.add (i * 7)).off + 6, none⟩ = some (.slice A6 ls[i].f1.f1.length c6) ∧ Kd.C kNode w A6 ls[i].f1.f1.length ls[i].f1.f1 := by
 subst hn
 obtain ⟨ad, A6, c6, e, h0, h1, h2, h3, h4, h5, h6, h7, h8⟩ := at_TEntry h (i : Int) (by omega) (by omega)
 rw [rdEntry_at ls i hi, Int.toNat_natCast] at *
 exact ⟨ad, A6, c6, e, h7, h0, h1, h2, h3, h4, h5, h6, h8⟩
set_option maxRecDepth 100000 in
set_option maxHeartbeats 8000000 in
theorem lawVHonest.calls (wd : Int) (A : Option Addr) (c : Nat) (ls : List SLeaf) (o : SRoot) (w : World) (hK : LaidT w) (hr : Kd.C kLeaf w A ls.length ls) (hc : ls.length ≤ c) (hub : ∀ x ∈ ls, OkU x.f3) (hll : ls.length ≤ 9223372036854775807) :
  Calls Tryd.prog 10 #[.int .i64 wd, .slice A ls.length c, .agg #[.string o.f0, .int .u64 o.f1.f0, .int .u64 o.f1.f1, .int .i64 o.f2]] w fun e w' => e = .returned (.bool true) ∧ Below w.heap.size w w' := by
 have HK := aM' hK
 have HR := aM' hr
 have HC := aM' hc
 have HUB := aM' hub
 obtain ⟨kg, hkg⟩ := (great15_ev ls hll).rounds
 obtain ⟨gr, hgr⟩ : ∃ g, g = greatL ls := ⟨_, rfl⟩
 rw [← hgr] at hkg
 have HG := aM' hkg
 have HGR := aM' hgr
 obtain ⟨W0, hW0⟩ : ∃ V, V = w.alloc (.cells #[.string o.f0, .int .u64 o.f1.f0, .int .u64 o.f1.f1, .int .i64 o.f2] 41) := ⟨_, rfl⟩
 have HB0 := aM' (show Below w.heap.size w W0 by rw [hW0]; exact below_alloc (Below.refl _ _) _)
 have HX0 := aM' (show W0.heap[w.heap.size]? = some (.cells #[.string o.f0, .int .u64 o.f1.f0, .int .u64 o.f1.f1, .int .i64 o.f2] 41 (0, 0)) by rw [hW0]; exact blk_new _ _)
 clear hK hr hc hub hll hkg hgr
 go_enter Tryd.func10, Tryd.ntmps10
 go_wp2_with fail
 rw [← hW0]
 clear hW0
 refine (awake17.calls W0 (HK.out.below HB0.out)).mono ?_
 rintro e w1 ⟨rfl, hb⟩
 have HB1 := aM' (HB0.out.trans (hb.mono HB0.out.size))
 have HX1 := aM' (blk_below HX0.out hb)
 clear hb
 go_wp2_with fail
 refine (paymasterlaw15_Great.calls kg A c ls gr _ (Kd.C_below HR.out HB1.out) HC.out HG.out).mono ?_
 rintro e w2 ⟨rfl, hd⟩
 obtain ⟨nd, rfl⟩ := hd
 obtain ⟨W2, hW2⟩ : ∃ V, V = w1.drewN nd := ⟨_, rfl⟩
 have HB2 := aM' (show Below w.heap.size w W2 by rw [hW2]; exact pw_below_drewN HB1.out nd)
 have HX2 := aM' (show W2.heap[w.heap.size]? = some (.cells #[.string o.f0, .int .u64 o.f1.f0, .int .u64 o.f1.f1, .int .i64 o.f2] 41 (0, 0)) by rw [hW2]; exact blk_drewN HX1.out nd)
 rw [← hW2]
 clear hW2
 cases gr with
 | true =>
  go_wp2
  go_ret
  exact ⟨rfl, HB2.out⟩
 | false =>
  have x0 : W2.cell? ⟨w.heap.size, 0, none⟩ = some (.string o.f0) := blk_cell HX2.out 0
  by_cases h60 : (60 : Int) < (o.f0.size : Int)
  ·
   have b1 : decide ((60 : Int) < (o.f0.size : Int)) = true := decide_eq_true h60
   have b2 : decide (60 < o.f0.size) = true := decide_eq_true (by omega)
   go_wp2
   go_ret
   exact ⟨rfl, HB2.out⟩
  have b1 : decide ((60 : Int) < (o.f0.size : Int)) = false := decide_eq_false h60
  have b2 : decide (60 < o.f0.size) = false := decide_eq_false (by omega)
  obtain ⟨h70, hsz⟩ := greatL_ok HGR.out.symm
  have HOK := aM' (show ∀ y ∈ ls, OkL y from fun y hy => ⟨by have := (hsz y hy).1; omega, by have := (hsz y hy).2; omega, HUB.out y hy⟩)
  have H70 := aM' h70
  clear h70 hsz h60
  go_wp2_with fail
  refine (treeNew.calls wd A c ls W2 (HK.out.below HB2.out) (Kd.C_below HR.out HB2.out) HC.out (by have := H70.out; omega) HOK.out).mono ?_
  rintro e w5 ⟨hb, h⟩
  clear b1 b2 x0
  have HB5 := aM' (HB2.out.trans (hb.mono HB2.out.size))
  have HX5 := aM' (blk_below HX2.out hb)
  rcases h with ⟨hz, ta, gl, cl, VV, gs, rfl, hO⟩ | ⟨hnz, rfl⟩
  case inr =>
   have b0 : (newI wd ls == 0) = false := by simp [hnz]
   have HNZ := aM' hnz
   clear hb hnz
   generalize newI wd ls = er at b0 HNZ
   go_wp2
   go_ret
   exact ⟨rfl, HB5.out⟩
  case inl =>
   have HO5 := aM' hO
   have HKK := aM' (newI_zero hz HOK.out)
   clear hb hz hO
   obtain ⟨m, hm⟩ : ∃ m, m = ls.length.log2 := ⟨_, rfl⟩
   have HMM := aM' hm
   obtain ⟨rt, hrt⟩ : ∃ r, r = topI (treeT wd ls) := ⟨_, rfl⟩
   have HRT := aM' hrt
   have HL1024 := aM' (show ls.length ≤ 1024 by have := H70.out; omega)
   have hm6 : m ≤ 6 := by
    rcases Nat.lt_or_ge 6 m with h1 | h1
    ·
     have h2 := Nat.pow_le_pow_right (n := 2) (by decide) (show 7 ≤ m by omega)
     have h3 := HKK.out.p
     rw [← HMM.out] at h3
     have := H70.out
     omega
    ·
     exact h1
   have HM6 := aM' hm6
   clear hm hrt hm6
   go_wp2_with fail
   refine (HO5.out.rootC HKK.out HL1024.out HMM.out HRT.out).mono ?_
   rintro e w6 ⟨rfl, hb⟩
   obtain ⟨g9, hg9⟩ : ∃ g, g = w6.heap.size := ⟨_, rfl⟩
   obtain ⟨W7, hW7⟩ : ∃ V, V = w6.alloc (.cells #[.string rt.f0, .int .u64 rt.f1.f0, .int .u64 rt.f1.f1, .int .i64 (m : Int)] 41) := ⟨_, rfl⟩
   have hb7 : Below w5.heap.size w5 W7 := by rw [hW7]; exact below_alloc hb _
   have HB7 := aM' (HB5.out.trans (hb7.mono HB5.out.size))
   have HX7 := aM' (blk_below HX5.out hb7)
   have HO7 := aM' (HO5.out.keep hb7)
   have HR7 := aM' (show W7.heap[g9]? = some (.cells #[.string rt.f0, .int .u64 rt.f1.f0, .int .u64 rt.f1.f1, .int .i64 (m : Int)] 41 (0, 0)) by rw [hW7, hg9]; exact blk_new _ _)
   go_wp2_with fail
   rw [← hg9, ← hW7]
   clear hg9 hW7 hb7 hb
   refine (proofAll.calls _ ta gl cl VV gs wd ls m W7 HO7.out HKK.out HL1024.out HMM.out (by have := HM6.out; omega)).mono ?_
   rintro e w8 ⟨A8, c8, rfl, hc8, hk8, hb⟩
   have HB8 := aM' (HB7.out.trans (hb.mono HB7.out.size))
   have HX8 := aM' (blk_below HX7.out hb)
   have HR8 := aM' (blk_below HR7.out hb)
   have HC8 := aM' hc8
   have HE8 := aM' hk8
   clear hb hc8 hk8
   have z0 := blk_cell HR8.out 0
   have z1 := blk_cell HR8.out 1
   have z2 := blk_cell HR8.out 2
   have z3 := blk_cell HR8.out 3
   simp at z0 z1 z2 z3
   have hrE : rootE wd ls m = ⟨rt.f0, rt.f1, (m : Int)⟩ := by unfold rootE; rw [HRT.out]
   have HRE := aM' hrE
   clear hrE
   have HEO := aM' (show ∀ e ∈ entsL wd ls m, OkE e from fun e he => by
    obtain ⟨p, hp, rfl⟩ := List.mem_map.1 he
    exact honest_okE HKK.out HMM.out (List.mem_range.1 hp) (by have := HM6.out; omega) HL1024.out HOK.out)
   have HEC := aM' (show ∀ e ∈ entsL wd ls m, checkI ⟨rt.f0, rt.f1, (m : Int)⟩ e = 0 from fun e he => by
    obtain ⟨p, hp, rfl⟩ := List.mem_map.1 he
    rw [← HRE.out]
    exact honest_check HKK.out HMM.out (List.mem_range.1 hp) (by have := HM6.out; omega))
   obtain ⟨kv, hkv⟩ := (allOk_ev ⟨rt.f0, rt.f1, (m : Int)⟩ (entsL wd ls m) (by rw [entsL_len]; exact HL1024.out) HEO.out HEC.out).rounds
   have q := verify_All.calls kv rt.f0 rt.f1.f0 rt.f1.f1 (m : Int) A8 c8 (entsL wd ls m) _ _ w8 (HK.out.below HB8.out) (by rw [entsL_len]; exact HE8.out) (by rw [entsL_len]; exact HC8.out) hkv
   rw [entsL_len] at q
   have HV := aM' q
   clear q hkv
   go_wp2_with fail
   refine HV.out.mono ?_
   rintro e w9 ⟨rfl, hb⟩
   have HB9 := aM' (HB8.out.trans (hb.mono HB8.out.size))
   have HX9 := aM' (blk_below HX8.out hb)
   have HR9 := aM' (blk_below HR8.out hb)
   have HE9 := aM' (Kd.C_below HE8.out hb)
   clear hb z0 z1 z2 z3
   have z0 := blk_cell HR9.out 0
   have z1 := blk_cell HR9.out 1
   have z2 := blk_cell HR9.out 2
   have z3 := blk_cell HR9.out 3
   simp at z0 z1 z2 z3
   obtain ⟨u, hu⟩ : ∃ u, u = (if rt.f1.f1 + 1 = 18446744073709551616 then 0 else rt.f1.f1 + 1 : Int) := ⟨_, rfl⟩
   have hk := top_k HKK.out
   rw [← HRT.out] at hk
   have hu1 := hk.u.h1
   have hwu : IntKind.u64.wrap (rt.f1.f1 + 1) = u := by
    rw [hu]
    split
    ·
     next h => rw [h]; rfl
    ·
     exact wrapu64_id (by omega) (by omega)
   have HU := aM' (show u ≠ rt.f1.f1 by rw [hu]; split <;> omega)
   clear hu hk hu1
   obtain ⟨g13, hg13⟩ : ∃ g, g = w9.heap.size := ⟨_, rfl⟩
   obtain ⟨W13, hW13⟩ : ∃ V, V = w9.alloc (.cells #[.string rt.f0, .int .u64 rt.f1.f0, .int .u64 u, .int .i64 (m : Int)] 41) := ⟨_, rfl⟩
   obtain ⟨r, hr⟩ : ∃ r : SRoot, r = ⟨rt.f0, rt.f1, (m : Int)⟩ := ⟨_, rfl⟩
   obtain ⟨s, hs⟩ : ∃ s : SRoot, s = ⟨rt.f0, ⟨rt.f1.f0, u⟩, (m : Int)⟩ := ⟨_, rfl⟩
   have hb13 : Below w9.heap.size w9 W13 := by rw [hW13]; exact below_alloc (Below.refl _ _) _
   have HB13 := aM' (HB9.out.trans (hb13.mono HB9.out.size))
   have HX13 := aM' (blk_below HX9.out hb13)
   have HR13 := aM' (show W13.heap[g9]? = some (.cells #[.string r.f0, .int .u64 r.f1.f0, .int .u64 r.f1.f1, .int .i64 r.f2] 41 (0, 0)) by rw [hr]; exact blk_below HR9.out hb13)
   have HS13 := aM' (show W13.heap[g13]? = some (.cells #[.string s.f0, .int .u64 s.f1.f0, .int .u64 s.f1.f1, .int .i64 s.f2] 41 (0, 0)) by rw [hs, hW13, hg13]; exact blk_new _ _)
   have HE13 := aM' (Kd.C_below HE9.out hb13)
   have HRR := aM' hr
   have HSS := aM' hs
   have HPOS := aM' (show 1 ≤ ls.length by rw [HKK.out.p]; exact Nat.one_le_two_pow)
   obtain ⟨ad, -, -, had, -⟩ := ent_at HE13.out (entsL_len wd ls m) 0 (by rw [entsL_len]; exact HPOS.out)
   subst had
   go_upto_region 15 with (fail)
   simp only [← hg13, ← hW13]
   clear hg13 hW13 hb13 hr hs z0 z1 z2 z3 hwu
   go_wp2
   go_loopw [14] (fun v14 wr => ∃ i : Nat, v14 = .int .i64 (i : Int) ∧ Aside0 (i ≤ ls.length) ∧ Aside0 (Below W13.heap.size W13 wr)) (fun v14 _ => ls.length - (intOf v14).toNat)
   case atStart => exact ⟨0, rfl, ⟨Nat.zero_le _⟩, ⟨Below.refl _ _⟩⟩
   case round =>
    obtain ⟨i, rfl, HI, HBR⟩ := hrel
    by_cases hlt : i < ls.length
    ·
     have b1 : decide ((i : Int) < (ls.length : Int)) = true := decide_eq_true (by omega)
     have b2 : decide (i < ls.length) = true := decide_eq_true hlt
     have HLT := aM' hlt
     obtain ⟨e, he⟩ : ∃ e, e = (entsL wd ls m)[i]'(by rw [entsL_len]; exact hlt) := ⟨_, rfl⟩
     obtain ⟨ad', A6, c6, had, hcc, e0, e1, e2, e3, e4, e5, e6, hkc⟩ := ent_at (Kd.C_below HE13.out HBR.out) (entsL_len wd ls m) i (by rw [entsL_len]; exact hlt)
     cases had
     rw [← he] at hcc e0 e1 e2 e3 e4 e5 e6 hkc
     obtain ⟨ap, hap⟩ : ∃ ap, ap = ad.add (i * 7) := ⟨_, rfl⟩
     rw [← hap] at e0 e1 e2 e3 e4 e5 e6
     have hem : e = entE wd ls i m := by rw [he]; exact entsL_get hlt
     have HEM := aM' (show e.f1.f1.length = m by rw [hem]; exact besL_len ..)
     have HEK := aM' (HEO.out e (by rw [he]; exact List.getElem_mem _))
     obtain ⟨v, hv⟩ : ∃ v, v = checkI o e := ⟨_, rfl⟩
     have HV1 := aM' (show checkI ⟨o.f0, ⟨o.f1.f0, o.f1.f1⟩, o.f2⟩ e = v from hv.symm)
     have HV2 := aM' (show checkI ⟨s.f0, ⟨s.f1.f0, s.f1.f1⟩, s.f2⟩ e = 160 by
      rw [HSS.out, hem, HRT.out]
      exact honest_more HKK.out HMM.out hlt (by have := HM6.out; omega) u (by rw [← HRT.out]; exact HU.out))
     have HV3 := aM' (show (o.f0.size : Int) = wd → v = 0 → o.f0.toList = r.f0.toList ∧ o.f1 = r.f1 ∧ o.f2 = r.f2 from fun hw h0 => by
      have := honest_one HKK.out HMM.out hlt (by have := HM6.out; omega) o hw (by rw [← hem, ← hv]; exact h0)
      rw [HRE.out] at this
      rw [HRR.out]
      exact this)
     have HS := aM' (show AtV W13 wr w.heap.size g9 g13 o r s ap e A6 c6 from ⟨HBR.out, blk_below HX13.out HBR.out, blk_below HR13.out HBR.out, blk_below HS13.out HBR.out, e0, e1, e2, e3, e4, e5, e6, hcc, hkc⟩)
     have HSD := aM' (HS.out.keep (below_drew (Below.refl _ _)))
     clear he hem hv e0 e1 e2 e3 e4 e5 e6 hcc hkc
     have hii : (i : Int) < (ls.length : Int) := by omega
     have hap2 := hap.symm
     clear hap
     obtain ⟨bq, hbq⟩ : ∃ b, b = (o.f0.toList == r.f0.toList && ((o.f1.f0 == r.f1.f0 && o.f1.f1 == r.f1.f1) && o.f2 == r.f2)) := ⟨_, rfl⟩
     have HQ := aM' hbq
     have hnot := bne_form o.f0.toList r.f0.toList o.f1.f0 r.f1.f0 o.f1.f1 r.f1.f1 o.f2 r.f2
     rw [← hbq] at hnot
     clear hbq
     cases bq with
     | true =>
      have kb : (!(o.f0.toList == r.f0.toList) || ((!(o.f1.f0 == r.f1.f0) || !(o.f1.f1 == r.f1.f1)) || !(o.f2 == r.f2))) = false := hnot
      clear hnot
      go_upto_region 18 with (fail)
      refine region_inv (fun l a W => a = ({ tmps := #[.int .i64 wd, .slice A ls.length c, .agg #[.string o.f0, .int .u64 o.f1.f0, .int .u64 o.f1.f1, .int .i64 o.f2], undef, undef, .pointer (some ⟨w.heap.size, 0, none⟩), u6, ptrT ta, .int .i64 0, .pointer (some ⟨g9, 0, none⟩), .slice (some ad) ls.length c8, .int .i64 (ls.length : Int), .int .i64 0, .pointer (some ⟨g13, 0, none⟩), .int .i64 (i : Int), .bool true, .bool false, .slice A ls.length c, .bool false, .bool false, .pointer (some ⟨w.heap.size, 0, none⟩), .string o.f0, .int .i64 (o.f0.size : Int), .bool false, .bool false, .tuple #[ptrT ta, .int .i64 0], .int .i64 wd, .slice A ls.length c, .tuple #[ptrT ta, .int .i64 0], ptrT ta, .int .i64 0, .int .i64 0, .bool false, ptrT ta, .agg #[.string rt.f0, .int .u64 rt.f1.f0, .int .u64 rt.f1.f1, .int .i64 (m : Int)], ptrT ta, .slice (some ad) ls.length c8, .tuple #[.int .i64 (ls.length : Int), .int .i64 0], .agg #[.string rt.f0, .int .u64 rt.f1.f0, .int .u64 rt.f1.f1, .int .i64 (m : Int)], .slice (some ad) ls.length c8, .tuple #[.int .i64 (ls.length : Int), .int .i64 0], .int .i64 (ls.length : Int), .int .i64 0, .int .i64 (ls.length : Int), .slice A ls.length c, .int .i64 (ls.length : Int), .bool false, .bool false, .int .i64 0, .bool false, .bool false, .bool false, .slice (some ad) ls.length c8, .int .i64 (ls.length : Int), .slice A ls.length c, .int .i64 (ls.length : Int), .bool false, .bool false, .agg #[.string rt.f0, .int .u64 rt.f1.f0, .int .u64 rt.f1.f1, .int .i64 (m : Int)], .pointer (some ⟨g13, 1, none⟩), .pointer (some ⟨g13, 2, none⟩), .int .u64 rt.f1.f1, .int .u64 u, .pointer (some ⟨g13, 1, none⟩), .pointer (some ⟨g13, 2, none⟩), .int .i64 (i : Int), .slice (some ad) ls.length c8, .int .i64 (ls.length : Int), .bool true, u69, u70, sel (l 0) (.agg #[.string o.f0, .int .u64 o.f1.f0, .int .u64 o.f1.f1, .int .i64 o.f2]) (u71), sel (l 1) (.agg #[.string r.f0, .int .u64 r.f1.f0, .int .u64 r.f1.f1, .int .i64 r.f2]) (u72), sel (l 2) (.bool false) (u73), sel (l 3) (.bool false) (u74), sel (l 4) (undef) (u75), sel (l 5) (undef) (u76), sel (l 6) (undef) (u77), sel (l 7) (undef) (u78), sel (l 8) (undef) (u79), sel (l 9) (.bool false) (u80), sel (l 10) (.bool false) (u81), sel (l 11) (undef) (u82), sel (l 12) (undef) (u83), sel (l 13) (undef) (u84), sel (l 14) (undef) (u85), sel (l 15) (undef) (u86), sel (l 16) (undef) (u87), sel (l 17) (undef) (u88), sel (l 18) (.bool false) (u89), sel (l 19) (.bool false) (u90), sel (l 20) (.agg #[.string s.f0, .int .u64 s.f1.f0, .int .u64 s.f1.f1, .int .i64 s.f2]) (u91), sel (l 21) (.slice (some ad) ls.length c8) (u92), sel (l 22) (.int .i64 (i : Int)) (u93), sel (l 23) (.pointer (some ap)) (u94), sel (l 24) (.agg #[.bool e.f0.f0, .string e.f0.f1, .string e.f0.f2, .int .u64 e.f0.f3.f0, .int .u64 e.f0.f3.f1, .int .u64 e.f1.f0, .slice A6 m c6]) (u95), sel (l 25) (.int .i64 160) (u96), sel (l 26) (.bool false) (u97), sel (l 27) (.bool false) (u98)], defers := [] } : Act) ∧ AtV W13 W w.heap.size g9 g13 o r s ap e A6 c6) 28 rfl rfl (by kernel_rfl) ?h0 ?hend ?hstep
      case h0 => exact ⟨rfl, HSD.out⟩
      case hstep =>
       refine rg_cons (rg_cons (rg_cons (rg_cons (rg_cons (rg_cons (rg_cons (rg_cons (rg_cons (rg_cons (rg_cons (rg_cons (rg_cons (rg_cons (rg_cons (rg_cons (rg_cons (rg_cons (rg_cons (rg_cons (rg_cons (rg_cons (rg_cons (rg_cons (rg_cons (rg_cons (rg_cons (rg_cons (rg_nil) ?s0) ?s1) ?s2) ?s3) ?s4) ?s5) ?s6) ?s7) ?s8) ?s9) ?s10) ?s11) ?s12) ?s13) ?s14) ?s15) ?s16) ?s17) ?s18) ?s19) ?s20) ?s21) ?s22) ?s23) ?s24) ?s25) ?s26) ?s27
       case s0 =>
        refine rg_step rfl ?_
        rintro l a W ⟨rfl, hI⟩ hl hd
        clear hd
        have x0 := blk_cell (hI.o5) 0
        have x1 := blk_cell (hI.o5) 1
        have x2 := blk_cell (hI.o5) 2
        have x3 := blk_cell (hI.o5) 3
        simp at x0 x1 x2 x3
        refine rg_val (v := .agg #[.string o.f0, .int .u64 o.f1.f0, .int .u64 o.f1.f1, .int .i64 o.f2]) (w' := W) rfl (by go_simp) ?_
        refine ⟨?_, ?_⟩
        ·
         simp only [Act.put, List.setIfInBounds_toArray, List.set_cons_zero, List.set_cons_succ]; rfl
        ·
         exact hI
       case s1 =>
        refine rg_step rfl ?_
        rintro l a W ⟨rfl, hI⟩ hl hd
        clear hd
        have x0 := blk_cell (hI.r9) 0
        have x1 := blk_cell (hI.r9) 1
        have x2 := blk_cell (hI.r9) 2
        have x3 := blk_cell (hI.r9) 3
        simp at x0 x1 x2 x3
        refine rg_val (v := .agg #[.string r.f0, .int .u64 r.f1.f0, .int .u64 r.f1.f1, .int .i64 r.f2]) (w' := W) rfl (by go_simp) ?_
        refine ⟨?_, ?_⟩
        ·
         simp only [Act.put, List.setIfInBounds_toArray, List.set_cons_zero, List.set_cons_succ]; rfl
        ·
         exact hI
       case s2 =>
        refine rg_step rfl ?_
        rintro l a W ⟨rfl, hI⟩ hl hd
        have d0 := hd 0 (by decide)
        have d1 := hd 1 (by decide)
        clear hd
        refine rg_val (v := .bool false) (w' := W) rfl (by go_simp; try rw [kb]) ?_
        refine ⟨?_, ?_⟩
        ·
         simp only [Act.put, List.setIfInBounds_toArray, List.set_cons_zero, List.set_cons_succ]; rfl
        ·
         exact hI
       case s3 =>
        refine rg_step rfl ?_
        rintro l a W ⟨rfl, hI⟩ hl hd
        have d2 := hd 2 (by decide)
        clear hd
        refine rg_val (v := .bool false) (w' := W) rfl (by go_simp) ?_
        refine ⟨?_, ?_⟩
        ·
         simp only [Act.put, List.setIfInBounds_toArray, List.set_cons_zero, List.set_cons_succ]; rfl
        ·
         exact hI
       case s4 =>
        refine rg_step rfl ?_
        rintro l a W ⟨rfl, hI⟩ hl hd
        have d3 := hd 3 (by decide)
        clear hd
        refine rg_not (by simp only [d3, sel_true]; rfl) ?_
        refine ⟨?_, ?_⟩
        ·
         simp only [Act.put, List.setIfInBounds_toArray, List.set_cons_zero, List.set_cons_succ]; rfl
        ·
         exact hI
       case s5 =>
        refine rg_step rfl ?_
        rintro l a W ⟨rfl, hI⟩ hl hd
        have d3 := hd 3 (by decide)
        clear hd
        refine rg_not (by simp only [d3, sel_true]; rfl) ?_
        refine ⟨?_, ?_⟩
        ·
         simp only [Act.put, List.setIfInBounds_toArray, List.set_cons_zero, List.set_cons_succ]; rfl
        ·
         exact hI
       case s6 =>
        refine rg_step rfl ?_
        rintro l a W ⟨rfl, hI⟩ hl hd
        have d3 := hd 3 (by decide)
        clear hd
        refine rg_not (by simp only [d3, sel_true]; rfl) ?_
        refine ⟨?_, ?_⟩
        ·
         simp only [Act.put, List.setIfInBounds_toArray, List.set_cons_zero, List.set_cons_succ]; rfl
        ·
         exact hI
       case s7 =>
        refine rg_step rfl ?_
        rintro l a W ⟨rfl, hI⟩ hl hd
        have d3 := hd 3 (by decide)
        clear hd
        refine rg_not (by simp only [d3, sel_true]; rfl) ?_
        refine ⟨?_, ?_⟩
        ·
         simp only [Act.put, List.setIfInBounds_toArray, List.set_cons_zero, List.set_cons_succ]; rfl
        ·
         exact hI
       case s8 =>
        refine rg_step rfl ?_
        rintro l a W ⟨rfl, hI⟩ hl hd
        have d3 := hd 3 (by decide)
        clear hd
        refine rg_not (by simp only [d3, sel_true]; rfl) ?_
        refine ⟨?_, ?_⟩
        ·
         simp only [Act.put, List.setIfInBounds_toArray, List.set_cons_zero, List.set_cons_succ]; rfl
        ·
         exact hI
       case s9 =>
        refine rg_step rfl ?_
        rintro l a W ⟨rfl, hI⟩ hl hd
        have d3 := hd 3 (by decide)
        have d8 := hd 8 (by decide)
        clear hd
        refine rg_val (v := .bool false) (w' := W) rfl (by go_simp) ?_
        refine ⟨?_, ?_⟩
        ·
         simp only [Act.put, List.setIfInBounds_toArray, List.set_cons_zero, List.set_cons_succ]; rfl
        ·
         exact hI
       case s10 =>
        refine rg_step rfl ?_
        rintro l a W ⟨rfl, hI⟩ hl hd
        have d9 := hd 9 (by decide)
        clear hd
        refine rg_val (v := .bool false) (w' := W) rfl (by go_simp) ?_
        refine ⟨?_, ?_⟩
        ·
         simp only [Act.put, List.setIfInBounds_toArray, List.set_cons_zero, List.set_cons_succ]; rfl
        ·
         exact hI
       case s11 =>
        refine rg_step rfl ?_
        rintro l a W ⟨rfl, hI⟩ hl hd
        have d10 := hd 10 (by decide)
        clear hd
        refine rg_not (by simp only [d10, sel_true]; rfl) ?_
        refine ⟨?_, ?_⟩
        ·
         simp only [Act.put, List.setIfInBounds_toArray, List.set_cons_zero, List.set_cons_succ]; rfl
        ·
         exact hI
       case s12 =>
        refine rg_step rfl ?_
        rintro l a W ⟨rfl, hI⟩ hl hd
        have d10 := hd 10 (by decide)
        clear hd
        refine rg_not (by simp only [d10, sel_true]; rfl) ?_
        refine ⟨?_, ?_⟩
        ·
         simp only [Act.put, List.setIfInBounds_toArray, List.set_cons_zero, List.set_cons_succ]; rfl
        ·
         exact hI
       case s13 =>
        refine rg_step rfl ?_
        rintro l a W ⟨rfl, hI⟩ hl hd
        have d10 := hd 10 (by decide)
        clear hd
        refine rg_not (by simp only [d10, sel_true]; rfl) ?_
        refine ⟨?_, ?_⟩
        ·
         simp only [Act.put, List.setIfInBounds_toArray, List.set_cons_zero, List.set_cons_succ]; rfl
        ·
         exact hI
       case s14 =>
        refine rg_step rfl ?_
        rintro l a W ⟨rfl, hI⟩ hl hd
        have d10 := hd 10 (by decide)
        clear hd
        refine rg_not (by simp only [d10, sel_true]; rfl) ?_
        refine ⟨?_, ?_⟩
        ·
         simp only [Act.put, List.setIfInBounds_toArray, List.set_cons_zero, List.set_cons_succ]; rfl
        ·
         exact hI
       case s15 =>
        refine rg_step rfl ?_
        rintro l a W ⟨rfl, hI⟩ hl hd
        have d10 := hd 10 (by decide)
        clear hd
        refine rg_not (by simp only [d10, sel_true]; rfl) ?_
        refine ⟨?_, ?_⟩
        ·
         simp only [Act.put, List.setIfInBounds_toArray, List.set_cons_zero, List.set_cons_succ]; rfl
        ·
         exact hI
       case s16 =>
        refine rg_step rfl ?_
        rintro l a W ⟨rfl, hI⟩ hl hd
        have d10 := hd 10 (by decide)
        clear hd
        refine rg_not (by simp only [d10, sel_true]; rfl) ?_
        refine ⟨?_, ?_⟩
        ·
         simp only [Act.put, List.setIfInBounds_toArray, List.set_cons_zero, List.set_cons_succ]; rfl
        ·
         exact hI
       case s17 =>
        refine rg_step rfl ?_
        rintro l a W ⟨rfl, hI⟩ hl hd
        have d10 := hd 10 (by decide)
        clear hd
        refine rg_not (by simp only [d10, sel_true]; rfl) ?_
        refine ⟨?_, ?_⟩
        ·
         simp only [Act.put, List.setIfInBounds_toArray, List.set_cons_zero, List.set_cons_succ]; rfl
        ·
         exact hI
       case s18 =>
        refine rg_step rfl ?_
        rintro l a W ⟨rfl, hI⟩ hl hd
        have d10 := hd 10 (by decide)
        have d17 := hd 17 (by decide)
        clear hd
        refine rg_val (v := .bool false) (w' := W) rfl (by go_simp) ?_
        refine ⟨?_, ?_⟩
        ·
         simp only [Act.put, List.setIfInBounds_toArray, List.set_cons_zero, List.set_cons_succ]; rfl
        ·
         exact hI
       case s19 =>
        refine rg_step rfl ?_
        rintro l a W ⟨rfl, hI⟩ hl hd
        have d18 := hd 18 (by decide)
        clear hd
        refine rg_val (v := .bool false) (w' := W) rfl (by go_simp) ?_
        refine ⟨?_, ?_⟩
        ·
         simp only [Act.put, List.setIfInBounds_toArray, List.set_cons_zero, List.set_cons_succ]; rfl
        ·
         exact hI
       case s20 =>
        refine rg_step rfl ?_
        rintro l a W ⟨rfl, hI⟩ hl hd
        have d19 := hd 19 (by decide)
        clear hd
        have x0 := blk_cell (hI.s13) 0
        have x1 := blk_cell (hI.s13) 1
        have x2 := blk_cell (hI.s13) 2
        have x3 := blk_cell (hI.s13) 3
        simp at x0 x1 x2 x3
        refine rg_val (v := .agg #[.string s.f0, .int .u64 s.f1.f0, .int .u64 s.f1.f1, .int .i64 s.f2]) (w' := W) (by simp only [d19, sel_true]; rfl) (by go_simp) ?_
        refine ⟨?_, ?_⟩
        ·
         simp only [Act.put, List.setIfInBounds_toArray, List.set_cons_zero, List.set_cons_succ]; rfl
        ·
         exact hI
       case s21 =>
        refine rg_step rfl ?_
        rintro l a W ⟨rfl, hI⟩ hl hd
        have d19 := hd 19 (by decide)
        clear hd
        refine rg_val (v := .slice (some ad) ls.length c8) (w' := W) (by simp only [d19, sel_true]; rfl) (by go_simp) ?_
        refine ⟨?_, ?_⟩
        ·
         simp only [Act.put, List.setIfInBounds_toArray, List.set_cons_zero, List.set_cons_succ]; rfl
        ·
         exact hI
       case s22 =>
        refine rg_step rfl ?_
        rintro l a W ⟨rfl, hI⟩ hl hd
        have d19 := hd 19 (by decide)
        clear hd
        refine rg_val (v := .int .i64 (i : Int)) (w' := W) (by simp only [d19, sel_true]; rfl) (by go_simp) ?_
        refine ⟨?_, ?_⟩
        ·
         simp only [Act.put, List.setIfInBounds_toArray, List.set_cons_zero, List.set_cons_succ]; rfl
        ·
         exact hI
       case s23 =>
        refine rg_step rfl ?_
        rintro l a W ⟨rfl, hI⟩ hl hd
        have d19 := hd 19 (by decide)
        have d21 := hd 21 (by decide)
        have d22 := hd 22 (by decide)
        clear hd
        refine rg_val (v := .pointer (some ap)) (w' := W) (by simp only [d19, sel_true]; rfl) (by go_simp; try rfl) ?_
        refine ⟨?_, ?_⟩
        ·
         simp only [Act.put, List.setIfInBounds_toArray, List.set_cons_zero, List.set_cons_succ]; rfl
        ·
         exact hI
       case s24 =>
        refine rg_step rfl ?_
        rintro l a W ⟨rfl, hI⟩ hl hd
        have d19 := hd 19 (by decide)
        have d23 := hd 23 (by decide)
        clear hd
        obtain ⟨⟨-, -, -, y0, y1, y2, y3, y4, y5, y6⟩, -⟩ := hI.cells HEM.out
        refine rg_val (v := .agg #[.bool e.f0.f0, .string e.f0.f1, .string e.f0.f2, .int .u64 e.f0.f3.f0, .int .u64 e.f0.f3.f1, .int .u64 e.f1.f0, .slice A6 m c6]) (w' := W) (by simp only [d19, sel_true]; rfl) (by go_simp) ?_
        refine ⟨?_, ?_⟩
        ·
         simp only [Act.put, List.setIfInBounds_toArray, List.set_cons_zero, List.set_cons_succ]; rfl
        ·
         exact hI
       case s25 =>
        refine rg_step rfl ?_
        rintro l a W ⟨rfl, hI⟩ hl hd
        have d19 := hd 19 (by decide)
        have d20 := hd 20 (by decide)
        have d24 := hd 24 (by decide)
        clear hd
        refine rg_call (by simp only [d19, sel_true]; rfl) (by go_simp; exact ⟨rfl, rfl⟩) ?_
        refine (hI.check (HK.out.below HB13.out) HEM.out HEK.out s.f0 s.f1.f0 s.f1.f1 s.f2 160 HV2.out).mono ?_
        rintro x W' ⟨rfl, hb⟩
        refine ⟨_, rfl, ?_, ?_⟩
        ·
         simp only [Act.put, List.setIfInBounds_toArray, List.set_cons_zero, List.set_cons_succ]; rfl
        ·
         exact hI.keep hb
       case s26 =>
        refine rg_step rfl ?_
        rintro l a W ⟨rfl, hI⟩ hl hd
        have d19 := hd 19 (by decide)
        have d25 := hd 25 (by decide)
        clear hd
        refine rg_val (v := .bool false) (w' := W) (by simp only [d19, sel_true]; rfl) (by go_simp) ?_
        refine ⟨?_, ?_⟩
        ·
         simp only [Act.put, List.setIfInBounds_toArray, List.set_cons_zero, List.set_cons_succ]; rfl
        ·
         exact hI
       case s27 =>
        refine rg_step rfl ?_
        rintro l a W ⟨rfl, hI⟩ hl hd
        have d19 := hd 19 (by decide)
        have d26 := hd 26 (by decide)
        clear hd
        refine rg_val (v := .bool false) (w' := W) rfl (by go_simp) ?_
        refine ⟨?_, ?_⟩
        ·
         simp only [Act.put, List.setIfInBounds_toArray, List.set_cons_zero, List.set_cons_succ]; rfl
        ·
         exact hI
      case hend =>
       rintro l a W ⟨rfl, hI⟩ hall
       have e0 := hall 0 (by decide)
       have e1 := hall 1 (by decide)
       have e2 := hall 2 (by decide)
       have e3 := hall 3 (by decide)
       have e4 := hall 4 (by decide)
       have e5 := hall 5 (by decide)
       have e6 := hall 6 (by decide)
       have e7 := hall 7 (by decide)
       have e8 := hall 8 (by decide)
       have e9 := hall 9 (by decide)
       have e10 := hall 10 (by decide)
       have e11 := hall 11 (by decide)
       have e12 := hall 12 (by decide)
       have e13 := hall 13 (by decide)
       have e14 := hall 14 (by decide)
       have e15 := hall 15 (by decide)
       have e16 := hall 16 (by decide)
       have e17 := hall 17 (by decide)
       have e18 := hall 18 (by decide)
       have e19 := hall 19 (by decide)
       have e20 := hall 20 (by decide)
       have e21 := hall 21 (by decide)
       have e22 := hall 22 (by decide)
       have e23 := hall 23 (by decide)
       have e24 := hall 24 (by decide)
       have e25 := hall 25 (by decide)
       have e26 := hall 26 (by decide)
       have e27 := hall 27 (by decide)
       clear hall
       simp only [e0, e1, e2, e3, e4, e5, e6, e7, e8, e9, e10, e11, e12, e13, e14, e15, e16, e17, e18, e19, e20, e21, e22, e23, e24, e25, e26, e27, sel_true]
       clear e0 e1 e2 e3 e4 e5 e6 e7 e8 e9 e10 e11 e12 e13 e14 e15 e16 e17 e18 e19 e20 e21 e22 e23 e24 e25 e26 e27
       have HBF := aM' hI.b
       clear hI
       have hi70 : i < 70 := by have := HLT.out; have := H70.out; omega
       go_wp2
       go_roundw
       case rel => exact ⟨i + 1, by go_num, ⟨by have := HLT.out; omega⟩, HBF⟩
       case measure => simp [intOf]; have := HLT.out; omega
     | false =>
      have kb : (!(o.f0.toList == r.f0.toList) || ((!(o.f1.f0 == r.f1.f0) || !(o.f1.f1 == r.f1.f1)) || !(o.f2 == r.f2))) = true := hnot
      clear hnot
      by_cases hsz : (o.f0.size : Int) = wd
      ·
       have k1 : ((o.f0.size : Int) == wd) = true := by simp [hsz]
       have k2 : (v == 0) = false := by
        rw [beq_eq_false_iff_ne]
        intro h0
        obtain ⟨g1, g2, g3⟩ := HV3.out hsz h0
        have := HQ.out
        rw [g1, g2, g3] at this
        simp at this
       clear hsz
       go_upto_region 18 with (fail)
       refine region_inv (fun l a W => a = ({ tmps := #[.int .i64 wd, .slice A ls.length c, .agg #[.string o.f0, .int .u64 o.f1.f0, .int .u64 o.f1.f1, .int .i64 o.f2], undef, undef, .pointer (some ⟨w.heap.size, 0, none⟩), u6, ptrT ta, .int .i64 0, .pointer (some ⟨g9, 0, none⟩), .slice (some ad) ls.length c8, .int .i64 (ls.length : Int), .int .i64 0, .pointer (some ⟨g13, 0, none⟩), .int .i64 (i : Int), .bool true, .bool false, .slice A ls.length c, .bool false, .bool false, .pointer (some ⟨w.heap.size, 0, none⟩), .string o.f0, .int .i64 (o.f0.size : Int), .bool false, .bool false, .tuple #[ptrT ta, .int .i64 0], .int .i64 wd, .slice A ls.length c, .tuple #[ptrT ta, .int .i64 0], ptrT ta, .int .i64 0, .int .i64 0, .bool false, ptrT ta, .agg #[.string rt.f0, .int .u64 rt.f1.f0, .int .u64 rt.f1.f1, .int .i64 (m : Int)], ptrT ta, .slice (some ad) ls.length c8, .tuple #[.int .i64 (ls.length : Int), .int .i64 0], .agg #[.string rt.f0, .int .u64 rt.f1.f0, .int .u64 rt.f1.f1, .int .i64 (m : Int)], .slice (some ad) ls.length c8, .tuple #[.int .i64 (ls.length : Int), .int .i64 0], .int .i64 (ls.length : Int), .int .i64 0, .int .i64 (ls.length : Int), .slice A ls.length c, .int .i64 (ls.length : Int), .bool false, .bool false, .int .i64 0, .bool false, .bool false, .bool false, .slice (some ad) ls.length c8, .int .i64 (ls.length : Int), .slice A ls.length c, .int .i64 (ls.length : Int), .bool false, .bool false, .agg #[.string rt.f0, .int .u64 rt.f1.f0, .int .u64 rt.f1.f1, .int .i64 (m : Int)], .pointer (some ⟨g13, 1, none⟩), .pointer (some ⟨g13, 2, none⟩), .int .u64 rt.f1.f1, .int .u64 u, .pointer (some ⟨g13, 1, none⟩), .pointer (some ⟨g13, 2, none⟩), .int .i64 (i : Int), .slice (some ad) ls.length c8, .int .i64 (ls.length : Int), .bool true, u69, u70, sel (l 0) (.agg #[.string o.f0, .int .u64 o.f1.f0, .int .u64 o.f1.f1, .int .i64 o.f2]) (u71), sel (l 1) (.agg #[.string r.f0, .int .u64 r.f1.f0, .int .u64 r.f1.f1, .int .i64 r.f2]) (u72), sel (l 2) (.bool true) (u73), sel (l 3) (.bool true) (u74), sel (l 4) (.pointer (some ⟨w.heap.size, 0, none⟩)) (u75), sel (l 5) (.string o.f0) (u76), sel (l 6) (.int .i64 ((o.f0).size : Int)) (u77), sel (l 7) (.int .i64 wd) (u78), sel (l 8) (.bool true) (u79), sel (l 9) (.bool true) (u80), sel (l 10) (.bool true) (u81), sel (l 11) (.agg #[.string o.f0, .int .u64 o.f1.f0, .int .u64 o.f1.f1, .int .i64 o.f2]) (u82), sel (l 12) (.slice (some ad) ls.length c8) (u83), sel (l 13) (.int .i64 (i : Int)) (u84), sel (l 14) (.pointer (some ap)) (u85), sel (l 15) (.agg #[.bool e.f0.f0, .string e.f0.f1, .string e.f0.f2, .int .u64 e.f0.f3.f0, .int .u64 e.f0.f3.f1, .int .u64 e.f1.f0, .slice A6 m c6]) (u86), sel (l 16) (.int .i64 v) (u87), sel (l 17) (.bool false) (u88), sel (l 18) (.bool false) (u89), sel (l 19) (.bool false) (u90), sel (l 20) (.agg #[.string s.f0, .int .u64 s.f1.f0, .int .u64 s.f1.f1, .int .i64 s.f2]) (u91), sel (l 21) (.slice (some ad) ls.length c8) (u92), sel (l 22) (.int .i64 (i : Int)) (u93), sel (l 23) (.pointer (some ap)) (u94), sel (l 24) (.agg #[.bool e.f0.f0, .string e.f0.f1, .string e.f0.f2, .int .u64 e.f0.f3.f0, .int .u64 e.f0.f3.f1, .int .u64 e.f1.f0, .slice A6 m c6]) (u95), sel (l 25) (.int .i64 160) (u96), sel (l 26) (.bool false) (u97), sel (l 27) (.bool false) (u98)], defers := [] } : Act) ∧ AtV W13 W w.heap.size g9 g13 o r s ap e A6 c6) 28 rfl rfl (by kernel_rfl) ?h0 ?hend ?hstep
       case h0 => exact ⟨rfl, HSD.out⟩
       case hstep =>
        refine rg_cons (rg_cons (rg_cons (rg_cons (rg_cons (rg_cons (rg_cons (rg_cons (rg_cons (rg_cons (rg_cons (rg_cons (rg_cons (rg_cons (rg_cons (rg_cons (rg_cons (rg_cons (rg_cons (rg_cons (rg_cons (rg_cons (rg_cons (rg_cons (rg_cons (rg_cons (rg_cons (rg_cons (rg_nil) ?s0) ?s1) ?s2) ?s3) ?s4) ?s5) ?s6) ?s7) ?s8) ?s9) ?s10) ?s11) ?s12) ?s13) ?s14) ?s15) ?s16) ?s17) ?s18) ?s19) ?s20) ?s21) ?s22) ?s23) ?s24) ?s25) ?s26) ?s27
        case s0 =>
         refine rg_step rfl ?_
         rintro l a W ⟨rfl, hI⟩ hl hd
         clear hd
         have x0 := blk_cell (hI.o5) 0
         have x1 := blk_cell (hI.o5) 1
         have x2 := blk_cell (hI.o5) 2
         have x3 := blk_cell (hI.o5) 3
         simp at x0 x1 x2 x3
         refine rg_val (v := .agg #[.string o.f0, .int .u64 o.f1.f0, .int .u64 o.f1.f1, .int .i64 o.f2]) (w' := W) rfl (by go_simp) ?_
         refine ⟨?_, ?_⟩
         ·
          simp only [Act.put, List.setIfInBounds_toArray, List.set_cons_zero, List.set_cons_succ]; rfl
         ·
          exact hI
        case s1 =>
         refine rg_step rfl ?_
         rintro l a W ⟨rfl, hI⟩ hl hd
         clear hd
         have x0 := blk_cell (hI.r9) 0
         have x1 := blk_cell (hI.r9) 1
         have x2 := blk_cell (hI.r9) 2
         have x3 := blk_cell (hI.r9) 3
         simp at x0 x1 x2 x3
         refine rg_val (v := .agg #[.string r.f0, .int .u64 r.f1.f0, .int .u64 r.f1.f1, .int .i64 r.f2]) (w' := W) rfl (by go_simp) ?_
         refine ⟨?_, ?_⟩
         ·
          simp only [Act.put, List.setIfInBounds_toArray, List.set_cons_zero, List.set_cons_succ]; rfl
         ·
          exact hI
        case s2 =>
         refine rg_step rfl ?_
         rintro l a W ⟨rfl, hI⟩ hl hd
         have d0 := hd 0 (by decide)
         have d1 := hd 1 (by decide)
         clear hd
         refine rg_val (v := .bool true) (w' := W) rfl (by go_simp; try rw [kb]) ?_
         refine ⟨?_, ?_⟩
         ·
          simp only [Act.put, List.setIfInBounds_toArray, List.set_cons_zero, List.set_cons_succ]; rfl
         ·
          exact hI
        case s3 =>
         refine rg_step rfl ?_
         rintro l a W ⟨rfl, hI⟩ hl hd
         have d2 := hd 2 (by decide)
         clear hd
         refine rg_val (v := .bool true) (w' := W) rfl (by go_simp) ?_
         refine ⟨?_, ?_⟩
         ·
          simp only [Act.put, List.setIfInBounds_toArray, List.set_cons_zero, List.set_cons_succ]; rfl
         ·
          exact hI
        case s4 =>
         refine rg_step rfl ?_
         rintro l a W ⟨rfl, hI⟩ hl hd
         have d3 := hd 3 (by decide)
         clear hd
         refine rg_val (v := .pointer (some ⟨w.heap.size, 0, none⟩)) (w' := W) (by simp only [d3, sel_true]; rfl) (by go_simp) ?_
         refine ⟨?_, ?_⟩
         ·
          simp only [Act.put, List.setIfInBounds_toArray, List.set_cons_zero, List.set_cons_succ]; rfl
         ·
          exact hI
        case s5 =>
         refine rg_step rfl ?_
         rintro l a W ⟨rfl, hI⟩ hl hd
         have d3 := hd 3 (by decide)
         have d4 := hd 4 (by decide)
         clear hd
         have x0 := blk_cell (hI.o5) 0
         simp at x0
         refine rg_val (v := .string o.f0) (w' := W) (by simp only [d3, sel_true]; rfl) (by go_simp) ?_
         refine ⟨?_, ?_⟩
         ·
          simp only [Act.put, List.setIfInBounds_toArray, List.set_cons_zero, List.set_cons_succ]; rfl
         ·
          exact hI
        case s6 =>
         refine rg_step rfl ?_
         rintro l a W ⟨rfl, hI⟩ hl hd
         have d3 := hd 3 (by decide)
         have d5 := hd 5 (by decide)
         clear hd
         refine rg_val (v := .int .i64 ((o.f0).size : Int)) (w' := W) (by simp only [d3, sel_true]; rfl) (by go_simp) ?_
         refine ⟨?_, ?_⟩
         ·
          simp only [Act.put, List.setIfInBounds_toArray, List.set_cons_zero, List.set_cons_succ]; rfl
         ·
          exact hI
        case s7 =>
         refine rg_step rfl ?_
         rintro l a W ⟨rfl, hI⟩ hl hd
         have d3 := hd 3 (by decide)
         clear hd
         refine rg_val (v := .int .i64 wd) (w' := W) (by simp only [d3, sel_true]; rfl) (by go_simp) ?_
         refine ⟨?_, ?_⟩
         ·
          simp only [Act.put, List.setIfInBounds_toArray, List.set_cons_zero, List.set_cons_succ]; rfl
         ·
          exact hI
        case s8 =>
         refine rg_step rfl ?_
         rintro l a W ⟨rfl, hI⟩ hl hd
         have d3 := hd 3 (by decide)
         have d6 := hd 6 (by decide)
         have d7 := hd 7 (by decide)
         clear hd
         refine rg_val (v := .bool true) (w' := W) (by simp only [d3, sel_true]; rfl) (by go_simp; try rw [k1]) ?_
         refine ⟨?_, ?_⟩
         ·
          simp only [Act.put, List.setIfInBounds_toArray, List.set_cons_zero, List.set_cons_succ]; rfl
         ·
          exact hI
        case s9 =>
         refine rg_step rfl ?_
         rintro l a W ⟨rfl, hI⟩ hl hd
         have d3 := hd 3 (by decide)
         have d8 := hd 8 (by decide)
         clear hd
         refine rg_val (v := .bool true) (w' := W) rfl (by go_simp) ?_
         refine ⟨?_, ?_⟩
         ·
          simp only [Act.put, List.setIfInBounds_toArray, List.set_cons_zero, List.set_cons_succ]; rfl
         ·
          exact hI
        case s10 =>
         refine rg_step rfl ?_
         rintro l a W ⟨rfl, hI⟩ hl hd
         have d9 := hd 9 (by decide)
         clear hd
         refine rg_val (v := .bool true) (w' := W) rfl (by go_simp) ?_
         refine ⟨?_, ?_⟩
         ·
          simp only [Act.put, List.setIfInBounds_toArray, List.set_cons_zero, List.set_cons_succ]; rfl
         ·
          exact hI
        case s11 =>
         refine rg_step rfl ?_
         rintro l a W ⟨rfl, hI⟩ hl hd
         have d10 := hd 10 (by decide)
         clear hd
         have x0 := blk_cell (hI.o5) 0
         have x1 := blk_cell (hI.o5) 1
         have x2 := blk_cell (hI.o5) 2
         have x3 := blk_cell (hI.o5) 3
         simp at x0 x1 x2 x3
         refine rg_val (v := .agg #[.string o.f0, .int .u64 o.f1.f0, .int .u64 o.f1.f1, .int .i64 o.f2]) (w' := W) (by simp only [d10, sel_true]; rfl) (by go_simp) ?_
         refine ⟨?_, ?_⟩
         ·
          simp only [Act.put, List.setIfInBounds_toArray, List.set_cons_zero, List.set_cons_succ]; rfl
         ·
          exact hI
        case s12 =>
         refine rg_step rfl ?_
         rintro l a W ⟨rfl, hI⟩ hl hd
         have d10 := hd 10 (by decide)
         clear hd
         refine rg_val (v := .slice (some ad) ls.length c8) (w' := W) (by simp only [d10, sel_true]; rfl) (by go_simp) ?_
         refine ⟨?_, ?_⟩
         ·
          simp only [Act.put, List.setIfInBounds_toArray, List.set_cons_zero, List.set_cons_succ]; rfl
         ·
          exact hI
        case s13 =>
         refine rg_step rfl ?_
         rintro l a W ⟨rfl, hI⟩ hl hd
         have d10 := hd 10 (by decide)
         clear hd
         refine rg_val (v := .int .i64 (i : Int)) (w' := W) (by simp only [d10, sel_true]; rfl) (by go_simp) ?_
         refine ⟨?_, ?_⟩
         ·
          simp only [Act.put, List.setIfInBounds_toArray, List.set_cons_zero, List.set_cons_succ]; rfl
         ·
          exact hI
        case s14 =>
         refine rg_step rfl ?_
         rintro l a W ⟨rfl, hI⟩ hl hd
         have d10 := hd 10 (by decide)
         have d12 := hd 12 (by decide)
         have d13 := hd 13 (by decide)
         clear hd
         refine rg_val (v := .pointer (some ap)) (w' := W) (by simp only [d10, sel_true]; rfl) (by go_simp; try rfl) ?_
         refine ⟨?_, ?_⟩
         ·
          simp only [Act.put, List.setIfInBounds_toArray, List.set_cons_zero, List.set_cons_succ]; rfl
         ·
          exact hI
        case s15 =>
         refine rg_step rfl ?_
         rintro l a W ⟨rfl, hI⟩ hl hd
         have d10 := hd 10 (by decide)
         have d14 := hd 14 (by decide)
         clear hd
         obtain ⟨⟨-, -, -, y0, y1, y2, y3, y4, y5, y6⟩, -⟩ := hI.cells HEM.out
         refine rg_val (v := .agg #[.bool e.f0.f0, .string e.f0.f1, .string e.f0.f2, .int .u64 e.f0.f3.f0, .int .u64 e.f0.f3.f1, .int .u64 e.f1.f0, .slice A6 m c6]) (w' := W) (by simp only [d10, sel_true]; rfl) (by go_simp) ?_
         refine ⟨?_, ?_⟩
         ·
          simp only [Act.put, List.setIfInBounds_toArray, List.set_cons_zero, List.set_cons_succ]; rfl
         ·
          exact hI
        case s16 =>
         refine rg_step rfl ?_
         rintro l a W ⟨rfl, hI⟩ hl hd
         have d10 := hd 10 (by decide)
         have d11 := hd 11 (by decide)
         have d15 := hd 15 (by decide)
         clear hd
         refine rg_call (by simp only [d10, sel_true]; rfl) (by go_simp; exact ⟨rfl, rfl⟩) ?_
         refine (hI.check (HK.out.below HB13.out) HEM.out HEK.out o.f0 o.f1.f0 o.f1.f1 o.f2 v HV1.out).mono ?_
         rintro x W' ⟨rfl, hb⟩
         refine ⟨_, rfl, ?_, ?_⟩
         ·
          simp only [Act.put, List.setIfInBounds_toArray, List.set_cons_zero, List.set_cons_succ]; rfl
         ·
          exact hI.keep hb
        case s17 =>
         refine rg_step rfl ?_
         rintro l a W ⟨rfl, hI⟩ hl hd
         have d10 := hd 10 (by decide)
         have d16 := hd 16 (by decide)
         clear hd
         refine rg_val (v := .bool false) (w' := W) (by simp only [d10, sel_true]; rfl) (by go_simp; try rw [k2]) ?_
         refine ⟨?_, ?_⟩
         ·
          simp only [Act.put, List.setIfInBounds_toArray, List.set_cons_zero, List.set_cons_succ]; rfl
         ·
          exact hI
        case s18 =>
         refine rg_step rfl ?_
         rintro l a W ⟨rfl, hI⟩ hl hd
         have d10 := hd 10 (by decide)
         have d17 := hd 17 (by decide)
         clear hd
         refine rg_val (v := .bool false) (w' := W) rfl (by go_simp) ?_
         refine ⟨?_, ?_⟩
         ·
          simp only [Act.put, List.setIfInBounds_toArray, List.set_cons_zero, List.set_cons_succ]; rfl
         ·
          exact hI
        case s19 =>
         refine rg_step rfl ?_
         rintro l a W ⟨rfl, hI⟩ hl hd
         have d18 := hd 18 (by decide)
         clear hd
         refine rg_val (v := .bool false) (w' := W) rfl (by go_simp) ?_
         refine ⟨?_, ?_⟩
         ·
          simp only [Act.put, List.setIfInBounds_toArray, List.set_cons_zero, List.set_cons_succ]; rfl
         ·
          exact hI
        case s20 =>
         refine rg_step rfl ?_
         rintro l a W ⟨rfl, hI⟩ hl hd
         have d19 := hd 19 (by decide)
         clear hd
         have x0 := blk_cell (hI.s13) 0
         have x1 := blk_cell (hI.s13) 1
         have x2 := blk_cell (hI.s13) 2
         have x3 := blk_cell (hI.s13) 3
         simp at x0 x1 x2 x3
         refine rg_val (v := .agg #[.string s.f0, .int .u64 s.f1.f0, .int .u64 s.f1.f1, .int .i64 s.f2]) (w' := W) (by simp only [d19, sel_true]; rfl) (by go_simp) ?_
         refine ⟨?_, ?_⟩
         ·
          simp only [Act.put, List.setIfInBounds_toArray, List.set_cons_zero, List.set_cons_succ]; rfl
         ·
          exact hI
        case s21 =>
         refine rg_step rfl ?_
         rintro l a W ⟨rfl, hI⟩ hl hd
         have d19 := hd 19 (by decide)
         clear hd
         refine rg_val (v := .slice (some ad) ls.length c8) (w' := W) (by simp only [d19, sel_true]; rfl) (by go_simp) ?_
         refine ⟨?_, ?_⟩
         ·
          simp only [Act.put, List.setIfInBounds_toArray, List.set_cons_zero, List.set_cons_succ]; rfl
         ·
          exact hI
        case s22 =>
         refine rg_step rfl ?_
         rintro l a W ⟨rfl, hI⟩ hl hd
         have d19 := hd 19 (by decide)
         clear hd
         refine rg_val (v := .int .i64 (i : Int)) (w' := W) (by simp only [d19, sel_true]; rfl) (by go_simp) ?_
         refine ⟨?_, ?_⟩
         ·
          simp only [Act.put, List.setIfInBounds_toArray, List.set_cons_zero, List.set_cons_succ]; rfl
         ·
          exact hI
        case s23 =>
         refine rg_step rfl ?_
         rintro l a W ⟨rfl, hI⟩ hl hd
         have d19 := hd 19 (by decide)
         have d21 := hd 21 (by decide)
         have d22 := hd 22 (by decide)
         clear hd
         refine rg_val (v := .pointer (some ap)) (w' := W) (by simp only [d19, sel_true]; rfl) (by go_simp; try rfl) ?_
         refine ⟨?_, ?_⟩
         ·
          simp only [Act.put, List.setIfInBounds_toArray, List.set_cons_zero, List.set_cons_succ]; rfl
         ·
          exact hI
        case s24 =>
         refine rg_step rfl ?_
         rintro l a W ⟨rfl, hI⟩ hl hd
         have d19 := hd 19 (by decide)
         have d23 := hd 23 (by decide)
         clear hd
         obtain ⟨⟨-, -, -, y0, y1, y2, y3, y4, y5, y6⟩, -⟩ := hI.cells HEM.out
         refine rg_val (v := .agg #[.bool e.f0.f0, .string e.f0.f1, .string e.f0.f2, .int .u64 e.f0.f3.f0, .int .u64 e.f0.f3.f1, .int .u64 e.f1.f0, .slice A6 m c6]) (w' := W) (by simp only [d19, sel_true]; rfl) (by go_simp) ?_
         refine ⟨?_, ?_⟩
         ·
          simp only [Act.put, List.setIfInBounds_toArray, List.set_cons_zero, List.set_cons_succ]; rfl
         ·
          exact hI
        case s25 =>
         refine rg_step rfl ?_
         rintro l a W ⟨rfl, hI⟩ hl hd
         have d19 := hd 19 (by decide)
         have d20 := hd 20 (by decide)
         have d24 := hd 24 (by decide)
         clear hd
         refine rg_call (by simp only [d19, sel_true]; rfl) (by go_simp; exact ⟨rfl, rfl⟩) ?_
         refine (hI.check (HK.out.below HB13.out) HEM.out HEK.out s.f0 s.f1.f0 s.f1.f1 s.f2 160 HV2.out).mono ?_
         rintro x W' ⟨rfl, hb⟩
         refine ⟨_, rfl, ?_, ?_⟩
         ·
          simp only [Act.put, List.setIfInBounds_toArray, List.set_cons_zero, List.set_cons_succ]; rfl
         ·
          exact hI.keep hb
        case s26 =>
         refine rg_step rfl ?_
         rintro l a W ⟨rfl, hI⟩ hl hd
         have d19 := hd 19 (by decide)
         have d25 := hd 25 (by decide)
         clear hd
         refine rg_val (v := .bool false) (w' := W) (by simp only [d19, sel_true]; rfl) (by go_simp) ?_
         refine ⟨?_, ?_⟩
         ·
          simp only [Act.put, List.setIfInBounds_toArray, List.set_cons_zero, List.set_cons_succ]; rfl
         ·
          exact hI
        case s27 =>
         refine rg_step rfl ?_
         rintro l a W ⟨rfl, hI⟩ hl hd
         have d19 := hd 19 (by decide)
         have d26 := hd 26 (by decide)
         clear hd
         refine rg_val (v := .bool false) (w' := W) rfl (by go_simp) ?_
         refine ⟨?_, ?_⟩
         ·
          simp only [Act.put, List.setIfInBounds_toArray, List.set_cons_zero, List.set_cons_succ]; rfl
         ·
          exact hI
       case hend =>
        rintro l a W ⟨rfl, hI⟩ hall
        have e0 := hall 0 (by decide)
        have e1 := hall 1 (by decide)
        have e2 := hall 2 (by decide)
        have e3 := hall 3 (by decide)
        have e4 := hall 4 (by decide)
        have e5 := hall 5 (by decide)
        have e6 := hall 6 (by decide)
        have e7 := hall 7 (by decide)
        have e8 := hall 8 (by decide)
        have e9 := hall 9 (by decide)
        have e10 := hall 10 (by decide)
        have e11 := hall 11 (by decide)
        have e12 := hall 12 (by decide)
        have e13 := hall 13 (by decide)
        have e14 := hall 14 (by decide)
        have e15 := hall 15 (by decide)
        have e16 := hall 16 (by decide)
        have e17 := hall 17 (by decide)
        have e18 := hall 18 (by decide)
        have e19 := hall 19 (by decide)
        have e20 := hall 20 (by decide)
        have e21 := hall 21 (by decide)
        have e22 := hall 22 (by decide)
        have e23 := hall 23 (by decide)
        have e24 := hall 24 (by decide)
        have e25 := hall 25 (by decide)
        have e26 := hall 26 (by decide)
        have e27 := hall 27 (by decide)
        clear hall
        simp only [e0, e1, e2, e3, e4, e5, e6, e7, e8, e9, e10, e11, e12, e13, e14, e15, e16, e17, e18, e19, e20, e21, e22, e23, e24, e25, e26, e27, sel_true]
        clear e0 e1 e2 e3 e4 e5 e6 e7 e8 e9 e10 e11 e12 e13 e14 e15 e16 e17 e18 e19 e20 e21 e22 e23 e24 e25 e26 e27
        have HBF := aM' hI.b
        clear hI
        have hi70 : i < 70 := by have := HLT.out; have := H70.out; omega
        go_wp2
        go_roundw
        case rel => exact ⟨i + 1, by go_num, ⟨by have := HLT.out; omega⟩, HBF⟩
        case measure => simp [intOf]; have := HLT.out; omega
      ·
       have k1 : ((o.f0.size : Int) == wd) = false := by simp [hsz]
       clear hsz
       go_upto_region 18 with (fail)
       refine region_inv (fun l a W => a = ({ tmps := #[.int .i64 wd, .slice A ls.length c, .agg #[.string o.f0, .int .u64 o.f1.f0, .int .u64 o.f1.f1, .int .i64 o.f2], undef, undef, .pointer (some ⟨w.heap.size, 0, none⟩), u6, ptrT ta, .int .i64 0, .pointer (some ⟨g9, 0, none⟩), .slice (some ad) ls.length c8, .int .i64 (ls.length : Int), .int .i64 0, .pointer (some ⟨g13, 0, none⟩), .int .i64 (i : Int), .bool true, .bool false, .slice A ls.length c, .bool false, .bool false, .pointer (some ⟨w.heap.size, 0, none⟩), .string o.f0, .int .i64 (o.f0.size : Int), .bool false, .bool false, .tuple #[ptrT ta, .int .i64 0], .int .i64 wd, .slice A ls.length c, .tuple #[ptrT ta, .int .i64 0], ptrT ta, .int .i64 0, .int .i64 0, .bool false, ptrT ta, .agg #[.string rt.f0, .int .u64 rt.f1.f0, .int .u64 rt.f1.f1, .int .i64 (m : Int)], ptrT ta, .slice (some ad) ls.length c8, .tuple #[.int .i64 (ls.length : Int), .int .i64 0], .agg #[.string rt.f0, .int .u64 rt.f1.f0, .int .u64 rt.f1.f1, .int .i64 (m : Int)], .slice (some ad) ls.length c8, .tuple #[.int .i64 (ls.length : Int), .int .i64 0], .int .i64 (ls.length : Int), .int .i64 0, .int .i64 (ls.length : Int), .slice A ls.length c, .int .i64 (ls.length : Int), .bool false, .bool false, .int .i64 0, .bool false, .bool false, .bool false, .slice (some ad) ls.length c8, .int .i64 (ls.length : Int), .slice A ls.length c, .int .i64 (ls.length : Int), .bool false, .bool false, .agg #[.string rt.f0, .int .u64 rt.f1.f0, .int .u64 rt.f1.f1, .int .i64 (m : Int)], .pointer (some ⟨g13, 1, none⟩), .pointer (some ⟨g13, 2, none⟩), .int .u64 rt.f1.f1, .int .u64 u, .pointer (some ⟨g13, 1, none⟩), .pointer (some ⟨g13, 2, none⟩), .int .i64 (i : Int), .slice (some ad) ls.length c8, .int .i64 (ls.length : Int), .bool true, u69, u70, sel (l 0) (.agg #[.string o.f0, .int .u64 o.f1.f0, .int .u64 o.f1.f1, .int .i64 o.f2]) (u71), sel (l 1) (.agg #[.string r.f0, .int .u64 r.f1.f0, .int .u64 r.f1.f1, .int .i64 r.f2]) (u72), sel (l 2) (.bool true) (u73), sel (l 3) (.bool true) (u74), sel (l 4) (.pointer (some ⟨w.heap.size, 0, none⟩)) (u75), sel (l 5) (.string o.f0) (u76), sel (l 6) (.int .i64 ((o.f0).size : Int)) (u77), sel (l 7) (.int .i64 wd) (u78), sel (l 8) (.bool false) (u79), sel (l 9) (.bool false) (u80), sel (l 10) (.bool false) (u81), sel (l 11) (undef) (u82), sel (l 12) (undef) (u83), sel (l 13) (undef) (u84), sel (l 14) (undef) (u85), sel (l 15) (undef) (u86), sel (l 16) (undef) (u87), sel (l 17) (undef) (u88), sel (l 18) (.bool false) (u89), sel (l 19) (.bool false) (u90), sel (l 20) (.agg #[.string s.f0, .int .u64 s.f1.f0, .int .u64 s.f1.f1, .int .i64 s.f2]) (u91), sel (l 21) (.slice (some ad) ls.length c8) (u92), sel (l 22) (.int .i64 (i : Int)) (u93), sel (l 23) (.pointer (some ap)) (u94), sel (l 24) (.agg #[.bool e.f0.f0, .string e.f0.f1, .string e.f0.f2, .int .u64 e.f0.f3.f0, .int .u64 e.f0.f3.f1, .int .u64 e.f1.f0, .slice A6 m c6]) (u95), sel (l 25) (.int .i64 160) (u96), sel (l 26) (.bool false) (u97), sel (l 27) (.bool false) (u98)], defers := [] } : Act) ∧ AtV W13 W w.heap.size g9 g13 o r s ap e A6 c6) 28 rfl rfl (by kernel_rfl) ?h0 ?hend ?hstep
       case h0 => exact ⟨rfl, HSD.out⟩
       case hstep =>
        refine rg_cons (rg_cons (rg_cons (rg_cons (rg_cons (rg_cons (rg_cons (rg_cons (rg_cons (rg_cons (rg_cons (rg_cons (rg_cons (rg_cons (rg_cons (rg_cons (rg_cons (rg_cons (rg_cons (rg_cons (rg_cons (rg_cons (rg_cons (rg_cons (rg_cons (rg_cons (rg_cons (rg_cons (rg_nil) ?s0) ?s1) ?s2) ?s3) ?s4) ?s5) ?s6) ?s7) ?s8) ?s9) ?s10) ?s11) ?s12) ?s13) ?s14) ?s15) ?s16) ?s17) ?s18) ?s19) ?s20) ?s21) ?s22) ?s23) ?s24) ?s25) ?s26) ?s27
        case s0 =>
         refine rg_step rfl ?_
         rintro l a W ⟨rfl, hI⟩ hl hd
         clear hd
         have x0 := blk_cell (hI.o5) 0
         have x1 := blk_cell (hI.o5) 1
         have x2 := blk_cell (hI.o5) 2
         have x3 := blk_cell (hI.o5) 3
         simp at x0 x1 x2 x3
         refine rg_val (v := .agg #[.string o.f0, .int .u64 o.f1.f0, .int .u64 o.f1.f1, .int .i64 o.f2]) (w' := W) rfl (by go_simp) ?_
         refine ⟨?_, ?_⟩
         ·
          simp only [Act.put, List.setIfInBounds_toArray, List.set_cons_zero, List.set_cons_succ]; rfl
         ·
          exact hI
        case s1 =>
         refine rg_step rfl ?_
         rintro l a W ⟨rfl, hI⟩ hl hd
         clear hd
         have x0 := blk_cell (hI.r9) 0
         have x1 := blk_cell (hI.r9) 1
         have x2 := blk_cell (hI.r9) 2
         have x3 := blk_cell (hI.r9) 3
         simp at x0 x1 x2 x3
         refine rg_val (v := .agg #[.string r.f0, .int .u64 r.f1.f0, .int .u64 r.f1.f1, .int .i64 r.f2]) (w' := W) rfl (by go_simp) ?_
         refine ⟨?_, ?_⟩
         ·
          simp only [Act.put, List.setIfInBounds_toArray, List.set_cons_zero, List.set_cons_succ]; rfl
         ·
          exact hI
        case s2 =>
         refine rg_step rfl ?_
         rintro l a W ⟨rfl, hI⟩ hl hd
         have d0 := hd 0 (by decide)
         have d1 := hd 1 (by decide)
         clear hd
         refine rg_val (v := .bool true) (w' := W) rfl (by go_simp; try rw [kb]) ?_
         refine ⟨?_, ?_⟩
         ·
          simp only [Act.put, List.setIfInBounds_toArray, List.set_cons_zero, List.set_cons_succ]; rfl
         ·
          exact hI
        case s3 =>
         refine rg_step rfl ?_
         rintro l a W ⟨rfl, hI⟩ hl hd
         have d2 := hd 2 (by decide)
         clear hd
         refine rg_val (v := .bool true) (w' := W) rfl (by go_simp) ?_
         refine ⟨?_, ?_⟩
         ·
          simp only [Act.put, List.setIfInBounds_toArray, List.set_cons_zero, List.set_cons_succ]; rfl
         ·
          exact hI
        case s4 =>
         refine rg_step rfl ?_
         rintro l a W ⟨rfl, hI⟩ hl hd
         have d3 := hd 3 (by decide)
         clear hd
         refine rg_val (v := .pointer (some ⟨w.heap.size, 0, none⟩)) (w' := W) (by simp only [d3, sel_true]; rfl) (by go_simp) ?_
         refine ⟨?_, ?_⟩
         ·
          simp only [Act.put, List.setIfInBounds_toArray, List.set_cons_zero, List.set_cons_succ]; rfl
         ·
          exact hI
        case s5 =>
         refine rg_step rfl ?_
         rintro l a W ⟨rfl, hI⟩ hl hd
         have d3 := hd 3 (by decide)
         have d4 := hd 4 (by decide)
         clear hd
         have x0 := blk_cell (hI.o5) 0
         simp at x0
         refine rg_val (v := .string o.f0) (w' := W) (by simp only [d3, sel_true]; rfl) (by go_simp) ?_
         refine ⟨?_, ?_⟩
         ·
          simp only [Act.put, List.setIfInBounds_toArray, List.set_cons_zero, List.set_cons_succ]; rfl
         ·
          exact hI
        case s6 =>
         refine rg_step rfl ?_
         rintro l a W ⟨rfl, hI⟩ hl hd
         have d3 := hd 3 (by decide)
         have d5 := hd 5 (by decide)
         clear hd
         refine rg_val (v := .int .i64 ((o.f0).size : Int)) (w' := W) (by simp only [d3, sel_true]; rfl) (by go_simp) ?_
         refine ⟨?_, ?_⟩
         ·
          simp only [Act.put, List.setIfInBounds_toArray, List.set_cons_zero, List.set_cons_succ]; rfl
         ·
          exact hI
        case s7 =>
         refine rg_step rfl ?_
         rintro l a W ⟨rfl, hI⟩ hl hd
         have d3 := hd 3 (by decide)
         clear hd
         refine rg_val (v := .int .i64 wd) (w' := W) (by simp only [d3, sel_true]; rfl) (by go_simp) ?_
         refine ⟨?_, ?_⟩
         ·
          simp only [Act.put, List.setIfInBounds_toArray, List.set_cons_zero, List.set_cons_succ]; rfl
         ·
          exact hI
        case s8 =>
         refine rg_step rfl ?_
         rintro l a W ⟨rfl, hI⟩ hl hd
         have d3 := hd 3 (by decide)
         have d6 := hd 6 (by decide)
         have d7 := hd 7 (by decide)
         clear hd
         refine rg_val (v := .bool false) (w' := W) (by simp only [d3, sel_true]; rfl) (by go_simp; try rw [k1]) ?_
         refine ⟨?_, ?_⟩
         ·
          simp only [Act.put, List.setIfInBounds_toArray, List.set_cons_zero, List.set_cons_succ]; rfl
         ·
          exact hI
        case s9 =>
         refine rg_step rfl ?_
         rintro l a W ⟨rfl, hI⟩ hl hd
         have d3 := hd 3 (by decide)
         have d8 := hd 8 (by decide)
         clear hd
         refine rg_val (v := .bool false) (w' := W) rfl (by go_simp) ?_
         refine ⟨?_, ?_⟩
         ·
          simp only [Act.put, List.setIfInBounds_toArray, List.set_cons_zero, List.set_cons_succ]; rfl
         ·
          exact hI
        case s10 =>
         refine rg_step rfl ?_
         rintro l a W ⟨rfl, hI⟩ hl hd
         have d9 := hd 9 (by decide)
         clear hd
         refine rg_val (v := .bool false) (w' := W) rfl (by go_simp) ?_
         refine ⟨?_, ?_⟩
         ·
          simp only [Act.put, List.setIfInBounds_toArray, List.set_cons_zero, List.set_cons_succ]; rfl
         ·
          exact hI
        case s11 =>
         refine rg_step rfl ?_
         rintro l a W ⟨rfl, hI⟩ hl hd
         have d10 := hd 10 (by decide)
         clear hd
         refine rg_not (by simp only [d10, sel_true]; rfl) ?_
         refine ⟨?_, ?_⟩
         ·
          simp only [Act.put, List.setIfInBounds_toArray, List.set_cons_zero, List.set_cons_succ]; rfl
         ·
          exact hI
        case s12 =>
         refine rg_step rfl ?_
         rintro l a W ⟨rfl, hI⟩ hl hd
         have d10 := hd 10 (by decide)
         clear hd
         refine rg_not (by simp only [d10, sel_true]; rfl) ?_
         refine ⟨?_, ?_⟩
         ·
          simp only [Act.put, List.setIfInBounds_toArray, List.set_cons_zero, List.set_cons_succ]; rfl
         ·
          exact hI
        case s13 =>
         refine rg_step rfl ?_
         rintro l a W ⟨rfl, hI⟩ hl hd
         have d10 := hd 10 (by decide)
         clear hd
         refine rg_not (by simp only [d10, sel_true]; rfl) ?_
         refine ⟨?_, ?_⟩
         ·
          simp only [Act.put, List.setIfInBounds_toArray, List.set_cons_zero, List.set_cons_succ]; rfl
         ·
          exact hI
        case s14 =>
         refine rg_step rfl ?_
         rintro l a W ⟨rfl, hI⟩ hl hd
         have d10 := hd 10 (by decide)
         clear hd
         refine rg_not (by simp only [d10, sel_true]; rfl) ?_
         refine ⟨?_, ?_⟩
         ·
          simp only [Act.put, List.setIfInBounds_toArray, List.set_cons_zero, List.set_cons_succ]; rfl
         ·
          exact hI
        case s15 =>
         refine rg_step rfl ?_
         rintro l a W ⟨rfl, hI⟩ hl hd
         have d10 := hd 10 (by decide)
         clear hd
         refine rg_not (by simp only [d10, sel_true]; rfl) ?_
         refine ⟨?_, ?_⟩
         ·
          simp only [Act.put, List.setIfInBounds_toArray, List.set_cons_zero, List.set_cons_succ]; rfl
         ·
          exact hI
        case s16 =>
         refine rg_step rfl ?_
         rintro l a W ⟨rfl, hI⟩ hl hd
         have d10 := hd 10 (by decide)
         clear hd
         refine rg_not (by simp only [d10, sel_true]; rfl) ?_
         refine ⟨?_, ?_⟩
         ·
          simp only [Act.put, List.setIfInBounds_toArray, List.set_cons_zero, List.set_cons_succ]; rfl
         ·
          exact hI
        case s17 =>
         refine rg_step rfl ?_
         rintro l a W ⟨rfl, hI⟩ hl hd
         have d10 := hd 10 (by decide)
         clear hd
         refine rg_not (by simp only [d10, sel_true]; rfl) ?_
         refine ⟨?_, ?_⟩
         ·
          simp only [Act.put, List.setIfInBounds_toArray, List.set_cons_zero, List.set_cons_succ]; rfl
         ·
          exact hI
        case s18 =>
         refine rg_step rfl ?_
         rintro l a W ⟨rfl, hI⟩ hl hd
         have d10 := hd 10 (by decide)
         have d17 := hd 17 (by decide)
         clear hd
         refine rg_val (v := .bool false) (w' := W) rfl (by go_simp) ?_
         refine ⟨?_, ?_⟩
         ·
          simp only [Act.put, List.setIfInBounds_toArray, List.set_cons_zero, List.set_cons_succ]; rfl
         ·
          exact hI
        case s19 =>
         refine rg_step rfl ?_
         rintro l a W ⟨rfl, hI⟩ hl hd
         have d18 := hd 18 (by decide)
         clear hd
         refine rg_val (v := .bool false) (w' := W) rfl (by go_simp) ?_
         refine ⟨?_, ?_⟩
         ·
          simp only [Act.put, List.setIfInBounds_toArray, List.set_cons_zero, List.set_cons_succ]; rfl
         ·
          exact hI
        case s20 =>
         refine rg_step rfl ?_
         rintro l a W ⟨rfl, hI⟩ hl hd
         have d19 := hd 19 (by decide)
         clear hd
         have x0 := blk_cell (hI.s13) 0
         have x1 := blk_cell (hI.s13) 1
         have x2 := blk_cell (hI.s13) 2
         have x3 := blk_cell (hI.s13) 3
         simp at x0 x1 x2 x3
         refine rg_val (v := .agg #[.string s.f0, .int .u64 s.f1.f0, .int .u64 s.f1.f1, .int .i64 s.f2]) (w' := W) (by simp only [d19, sel_true]; rfl) (by go_simp) ?_
         refine ⟨?_, ?_⟩
         ·
          simp only [Act.put, List.setIfInBounds_toArray, List.set_cons_zero, List.set_cons_succ]; rfl
         ·
          exact hI
        case s21 =>
         refine rg_step rfl ?_
         rintro l a W ⟨rfl, hI⟩ hl hd
         have d19 := hd 19 (by decide)
         clear hd
         refine rg_val (v := .slice (some ad) ls.length c8) (w' := W) (by simp only [d19, sel_true]; rfl) (by go_simp) ?_
         refine ⟨?_, ?_⟩
         ·
          simp only [Act.put, List.setIfInBounds_toArray, List.set_cons_zero, List.set_cons_succ]; rfl
         ·
          exact hI
        case s22 =>
         refine rg_step rfl ?_
         rintro l a W ⟨rfl, hI⟩ hl hd
         have d19 := hd 19 (by decide)
         clear hd
         refine rg_val (v := .int .i64 (i : Int)) (w' := W) (by simp only [d19, sel_true]; rfl) (by go_simp) ?_
         refine ⟨?_, ?_⟩
         ·
          simp only [Act.put, List.setIfInBounds_toArray, List.set_cons_zero, List.set_cons_succ]; rfl
         ·
          exact hI
        case s23 =>
         refine rg_step rfl ?_
         rintro l a W ⟨rfl, hI⟩ hl hd
         have d19 := hd 19 (by decide)
         have d21 := hd 21 (by decide)
         have d22 := hd 22 (by decide)
         clear hd
         refine rg_val (v := .pointer (some ap)) (w' := W) (by simp only [d19, sel_true]; rfl) (by go_simp; try rfl) ?_
         refine ⟨?_, ?_⟩
         ·
          simp only [Act.put, List.setIfInBounds_toArray, List.set_cons_zero, List.set_cons_succ]; rfl
         ·
          exact hI
        case s24 =>
         refine rg_step rfl ?_
         rintro l a W ⟨rfl, hI⟩ hl hd
         have d19 := hd 19 (by decide)
         have d23 := hd 23 (by decide)
         clear hd
         obtain ⟨⟨-, -, -, y0, y1, y2, y3, y4, y5, y6⟩, -⟩ := hI.cells HEM.out
         refine rg_val (v := .agg #[.bool e.f0.f0, .string e.f0.f1, .string e.f0.f2, .int .u64 e.f0.f3.f0, .int .u64 e.f0.f3.f1, .int .u64 e.f1.f0, .slice A6 m c6]) (w' := W) (by simp only [d19, sel_true]; rfl) (by go_simp) ?_
         refine ⟨?_, ?_⟩
         ·
          simp only [Act.put, List.setIfInBounds_toArray, List.set_cons_zero, List.set_cons_succ]; rfl
         ·
          exact hI
        case s25 =>
         refine rg_step rfl ?_
         rintro l a W ⟨rfl, hI⟩ hl hd
         have d19 := hd 19 (by decide)
         have d20 := hd 20 (by decide)
         have d24 := hd 24 (by decide)
         clear hd
         refine rg_call (by simp only [d19, sel_true]; rfl) (by go_simp; exact ⟨rfl, rfl⟩) ?_
         refine (hI.check (HK.out.below HB13.out) HEM.out HEK.out s.f0 s.f1.f0 s.f1.f1 s.f2 160 HV2.out).mono ?_
         rintro x W' ⟨rfl, hb⟩
         refine ⟨_, rfl, ?_, ?_⟩
         ·
          simp only [Act.put, List.setIfInBounds_toArray, List.set_cons_zero, List.set_cons_succ]; rfl
         ·
          exact hI.keep hb
        case s26 =>
         refine rg_step rfl ?_
         rintro l a W ⟨rfl, hI⟩ hl hd
         have d19 := hd 19 (by decide)
         have d25 := hd 25 (by decide)
         clear hd
         refine rg_val (v := .bool false) (w' := W) (by simp only [d19, sel_true]; rfl) (by go_simp) ?_
         refine ⟨?_, ?_⟩
         ·
          simp only [Act.put, List.setIfInBounds_toArray, List.set_cons_zero, List.set_cons_succ]; rfl
         ·
          exact hI
        case s27 =>
         refine rg_step rfl ?_
         rintro l a W ⟨rfl, hI⟩ hl hd
         have d19 := hd 19 (by decide)
         have d26 := hd 26 (by decide)
         clear hd
         refine rg_val (v := .bool false) (w' := W) rfl (by go_simp) ?_
         refine ⟨?_, ?_⟩
         ·
          simp only [Act.put, List.setIfInBounds_toArray, List.set_cons_zero, List.set_cons_succ]; rfl
         ·
          exact hI
       case hend =>
        rintro l a W ⟨rfl, hI⟩ hall
        have e0 := hall 0 (by decide)
        have e1 := hall 1 (by decide)
        have e2 := hall 2 (by decide)
        have e3 := hall 3 (by decide)
        have e4 := hall 4 (by decide)
        have e5 := hall 5 (by decide)
        have e6 := hall 6 (by decide)
        have e7 := hall 7 (by decide)
        have e8 := hall 8 (by decide)
        have e9 := hall 9 (by decide)
        have e10 := hall 10 (by decide)
        have e11 := hall 11 (by decide)
        have e12 := hall 12 (by decide)
        have e13 := hall 13 (by decide)
        have e14 := hall 14 (by decide)
        have e15 := hall 15 (by decide)
        have e16 := hall 16 (by decide)
        have e17 := hall 17 (by decide)
        have e18 := hall 18 (by decide)
        have e19 := hall 19 (by decide)
        have e20 := hall 20 (by decide)
        have e21 := hall 21 (by decide)
        have e22 := hall 22 (by decide)
        have e23 := hall 23 (by decide)
        have e24 := hall 24 (by decide)
        have e25 := hall 25 (by decide)
        have e26 := hall 26 (by decide)
        have e27 := hall 27 (by decide)
        clear hall
        simp only [e0, e1, e2, e3, e4, e5, e6, e7, e8, e9, e10, e11, e12, e13, e14, e15, e16, e17, e18, e19, e20, e21, e22, e23, e24, e25, e26, e27, sel_true]
        clear e0 e1 e2 e3 e4 e5 e6 e7 e8 e9 e10 e11 e12 e13 e14 e15 e16 e17 e18 e19 e20 e21 e22 e23 e24 e25 e26 e27
        have HBF := aM' hI.b
        clear hI
        have hi70 : i < 70 := by have := HLT.out; have := H70.out; omega
        go_wp2
        go_roundw
        case rel => exact ⟨i + 1, by go_num, ⟨by have := HLT.out; omega⟩, HBF⟩
        case measure => simp [intOf]; have := HLT.out; omega
    ·
     have b1 : decide ((i : Int) < (ls.length : Int)) = false := decide_eq_false (by omega)
     have b2 : decide (i < ls.length) = false := decide_eq_false hlt
     go_wp2
     go_ret
     exact ⟨rfl, HB13.out.trans (HBR.out.mono HB13.out.size)⟩
def law17_VerifyHonest.f (wd : Int) (ls : List SLeaf) (o0 : ByteArray) (o1 o2 o3 : Int) : Option Bool := if ls.length ≤ 9223372036854775807 ∧ (∀ x ∈ ls, (0 ≤ x.f3.f0 ∧ x.f3.f0 < 18446744073709551616) ∧ 0 ≤ x.f3.f1 ∧ x.f3.f1 < 18446744073709551616) then some true else none
theorem law17_VerifyHonest.calls (wd : Int) (A : Option Addr) (c : Nat) (ls : List SLeaf) (o0 : ByteArray) (o1 o2 o3 : Int) (r : Bool) (w : World) (hK : LaidT w) (hr : Kd.C kLeaf w A ls.length ls) (hc : ls.length ≤ c) (h : law17_VerifyHonest.f wd ls o0 o1 o2 o3 = some r) :
  Calls Tryd.prog 10 #[.int .i64 wd, .slice A ls.length c, .agg #[.string o0, .int .u64 o1, .int .u64 o2, .int .i64 o3]] w fun e w' => e = .returned (.bool r) ∧ Below w.heap.size w w' := by
 unfold law17_VerifyHonest.f at h
 split at h
 ·
  next hh =>
  cases h
  exact lawVHonest.calls wd A c ls ⟨o0, ⟨o1, o2⟩, o3⟩ w hK hr hc (fun x hx => by obtain ⟨h1, h2⟩ := hh.2 x hx; exact ⟨h1, h2⟩) hh.1
 ·
  cases h
end Go.Proofs.YtfcodmdckcihmaaDoor.P
namespace Go.Proofs.YtfcodmdckcihmaaDoor.P
open Go.RowKit Go.Proofs.YtfcodmdckcihmaaDoorW.PrintWords Go.Proofs.YtfcodmdckcihmaaDoorW.PrintLast Go.Proofs.YtfcodmdckcihmaaDoorW.PrintMore
set_option linter.unusedVariables false
set_option linter.unusedSimpArgs false
set_option linter.unnecessarySimpa false
def wfRoot (x : SRoot) : Prop := x.f0.size ≤ 140737488355328 ∧ wfU128 x.f1 ∧ (Lit.int .i64 x.f2).wf = true
theorem rdRoot : Rd Tryd.prog 41 kRoot wfRoot :=
 Rd.struct (fun x : SRoot => (x.f0, x.f1, x.f2)) (fun a => ⟨a.1, a.2.1, a.2.2⟩) (fun _ => rfl) Tryd.underlying41 (by kernel_rfl)
  (RdF.cons rfl (by kernel_rfl) (Rd.string Tryd.underlying9) (RdF.cons rfl (by kernel_rfl) rdU128 (RdF.one rfl (by kernel_rfl) (Rd.int .i64 Tryd.underlying3)))) (fun a h => h)
theorem pure_VerifyHonest : ∀ (y0 : Int) (y1 : (List SLeaf)) (y2 : SRoot), (Lit.int .i64 y0).wf = true → (y1.length ≤ 140737488355328 ∧ ∀ q0 ∈ y1, wfLeaf q0) → wfRoot y2 → law17_VerifyHonest.f y0 y1 y2.f0 y2.f1.f0 y2.f1.f1 y2.f2 = some true := fun _ _ _ _ hl _ => by
 unfold law17_VerifyHonest.f
 rw [if_pos ⟨by omega, fun x hx => ⟨wf_u64 (hl.2 x hx).2.2.2.1, wf_u64 (hl.2 x hx).2.2.2.2⟩⟩]
end Go.Proofs.YtfcodmdckcihmaaDoor.P
namespace Go.Proofs.YtfcodmdckcihmaaDoor.verifyHonest
open Go.Proofs.YtfcodmdckcihmaaDoor.P Go.ChangeShapes Go.WideShapes Go.ChangeAt Go.RowKit
open Go.ChangeMaps (open_string shut_string)
open Go.Proofs.YtfcodmdckcihmaaDoorW.PrintWords Go.Proofs.YtfcodmdckcihmaaDoorW.PrintLast Go.Proofs.YtfcodmdckcihmaaDoorW.PrintMore
set_option linter.unusedVariables false
set_option linter.unusedSimpArgs false
theorem own : ownKnob Tryd.prog.godebug = none := by kernel_rfl
theorem laidOut : laidOutB Tryd.prog = true := by kernel_rfl
set_option maxRecDepth 100000 in
theorem lifted (os : Os) (started : os.Started) (H : Type) (enc : TypeId × Value → H) :
    ReturnsInHanded {} Tryd.checked os 10 .any (fun w args => (Rows.verifyHonestSpec.pre enc Tryd.prog Tryd.f10 [] false w args ∧ laidMetH Tryd.prog Rows.verifyHonestRow.laid w) ∧ sizedMet enc Tryd.prog Tryd.f10 (OpenSpec.ofChange Rows.verifyHonestSpec) false w args)
      (Rows.verifyHonestSpec.post enc Tryd.prog Tryd.f10 false true false false) := by
  refine returnsInHanded_of_change_and (C := Tryd.checked) (X := fun w _ => laidMetH Tryd.prog Rows.verifyHonestRow.laid w) (fun _ _ _ hh h => h.of_heap hh) own started (by kernel_rfl) Tryd.func10
    (ChangeSpec.witness_at (enc := enc) (C := Tryd.checked) (os := os) (X := fun w _ => laidMetH Tryd.prog Rows.verifyHonestRow.laid w) false (P.laidWorldT os) #[.int .i64 0, .slice none 0 0, .agg #[.string ByteArray.empty, .int .u64 0, .int .u64 0, .int .i64 0]] 8 rfl (by kernel_rfl) (by kernel_rfl) (by kernel_rfl) (by kernel_rfl) (by kernel_rfl) (P.laidWorldT_met os _)) ?_
  intro W base args ds gs before hval0 hW _ hsz0 hL _
  have hval : ∀ (j : Nat) t v, Tryd.f10.params[j]? = some t → args[j]? = some v → Value.okWide Tryd.prog W .any base t v := hval0
  have hW' := hW
  obtain ⟨p, q, hA0, hV, rfl, hfz, hnd⟩ := hW
  have hA : DataW.TrodAll enc Tryd.prog W 0 (fun _ => true) true Tryd.f10.params.toList args.toList ds p := hA0
  rw [Tryd.params10] at hA hval
  obtain ⟨v0, vs0, d0, ds0, p0, q0, hargs, rfl, rfl, h0, r0⟩ := trodAll_cons hA
  obtain ⟨v1, vs1, d1, ds1, p1, q1, rfl, rfl, rfl, h1, r1⟩ := trodAll_cons r0
  obtain ⟨v2, vs2, d2, ds2, p2, q2, rfl, rfl, rfl, h2, r2⟩ := trodAll_cons r1
  obtain ⟨rfl, rfl, rfl⟩ := trodAll_nil r2
  obtain rfl : args = #[v0, v1, v2] := by cases args; simp_all
  obtain ⟨rfl, rfl⟩ := trodVars_none hV
  have hz0 : Sized Tryd.prog 3 d0 := Sized.each hsz0 (j := 0) rfl rfl
  have hz1 : Sized Tryd.prog 22 d1 := Sized.each hsz0 (j := 1) rfl rfl
  have hz2 : Sized Tryd.prog 41 d2 := Sized.each hsz0 (j := 2) rfl rfl
  have k0 := h0
  have lt0 : ∀ x ∈ p0, x.block < W.heap.size := by obtain ⟨m, hm⟩ := k0; exact DataW.trod_lt m _ _ _ hm
  obtain ⟨y0, rfl, rfl, rfl, w0⟩ := open_int Tryd.underlying3 (hval 0 3 v0 rfl rfl) h0
  have k1 := h1
  have lt1 : ∀ x ∈ p1, x.block < W.heap.size := by obtain ⟨m, hm⟩ := k1; exact DataW.trod_lt m _ _ _ hm
  obtain ⟨a1, len1, cap1, rfl⟩ := okWide_slice Tryd.underlying22 (hval 1 22 v1 rfl rfl)
  obtain ⟨y1, hk1, w1⟩ := (Rd.slice Tryd.underlying22 (by kernel_rfl) (of_decide_eq_true (by kernel_rfl)) rdLeaf).cell rfl h1 hz1
  obtain ⟨A1, c1, e1, l1, g1⟩ := hk1
  rw [List.cons.injEq] at e1
  obtain ⟨e1, -⟩ := e1
  injection e1 with ea1 el1 ec1
  subst ea1 el1 ec1
  have k2 := h2
  have lt2 : ∀ x ∈ p2, x.block < W.heap.size := by obtain ⟨m, hm⟩ := k2; exact DataW.trod_lt m _ _ _ hm
  obtain ⟨y2, cs2, rfl, hk2, w2⟩ := rdRoot.agg Tryd.underlying41 (hval 2 41 v2 rfl rfl) h2 hz2
  obtain ⟨cl2, rfl⟩ : ∃ l : List Value, cs2 = l.toArray := ⟨cs2.toList, by simp⟩
  simp only [List.toList_toArray] at hk2
  obtain rfl := kRoot_open hk2
  clear hA0 hval0 hsz0
  have h := pure_VerifyHonest y0 y1 y2 w0 w1 w2
  refine (law17_VerifyHonest.calls y0 _ _ y1 y2.f0 y2.f1.f0 y2.f1.f1 y2.f2 true W (P.laidT_of_met hL) g1 l1 h).mono fun e W' ⟨he, bel0⟩ => ?_
  have bel := bel0
  subst he
  exact ⟨_, rfl, _, _, _, [], _, [], hW', trodAll_mk1 (shut_bool Tryd.underlying4 _), (trodAll_cons_mk (Below.trod laidOut (by kernel_rfl) (of_decide_eq_true (by kernel_rfl)) k0 bel lt0) (trodAll_cons_mk (Below.trod laidOut (by kernel_rfl) (of_decide_eq_true (by kernel_rfl)) k1 bel lt1) (trodAll_cons_mk (Below.trod laidOut (by kernel_rfl) (of_decide_eq_true (by kernel_rfl)) k2 bel lt2) trodAll_mk0))), rfl, bel.frame _, fun h => by cases h⟩
theorem over : Rows.verifyHonestRow.holds Tryd.pinned (OpenSpec.ofChange Rows.verifyHonestSpec) :=
  OpenClaim.holds_of_wide 10 Tryd.f10 rfl rfl rfl rfl rfl rfl rfl ⟨rfl, rfl, rfl, rfl, rfl⟩ rfl rfl rfl rfl rfl (by kernel_rfl) Tryd.func10 (by kernel_rfl)
    (of_decide_eq_true (by kernel_rfl)) (by unfold Func.isWrapper; first | (rw [if_pos (by decide +kernel)]; kernel_rfl) | (rw [if_neg (by decide +kernel)]; exact ⟨rfl, rfl⟩))
    (fun os started H enc _ => lifted os started H enc)
set_option maxRecDepth 100000 in
theorem proved : Rows.VerifyHonestCardSaid :=
  Claim7.holds_tied_plain_at .later [] [.data, .data, .pinned] true (true, "4f2cffd12862c0dd414eb8a94792080809aa0e0cec70df79135b296e27b5c26d") false
    over (fun _ h => by cases h) (by kernel_rfl) (fun _ h => by cases h) verifyHonest_row_tie rfl ⟨rfl, rfl⟩ (by kernel_rfl) rfl
    (fun f fn hf hfn => by
      obtain rfl : f = 10 := Option.some.inj ((show Tryd.prog.funcNamed "paymaster/paymasterlaw17.VerifyHonest" = some 10 by kernel_rfl).symm.trans hf) |>.symm
      obtain rfl : fn = Tryd.f10 := (Option.some.inj (Tryd.func10.symm.trans hfn)).symm
      exact ⟨by kernel_rfl, fun j t ht => by
        rw [Tryd.params10] at ht
        have h3 : t ∈ [3, 22, 41] := by
          have := List.mem_of_getElem? (l := [3, 22, 41]) (i := j) (a := t) (by simpa using ht)
          exact this
        simp only [List.mem_cons, List.not_mem_nil, or_false] at h3
        rcases h3 with rfl | rfl | rfl
        · exact (show Tryd.prog.wantsStandIn 3 = false by kernel_rfl)
        · exact (show Tryd.prog.wantsStandIn 22 = false by kernel_rfl)
        · exact (show Tryd.prog.wantsStandIn 41 = false by kernel_rfl)
      ⟩)
    (by kernel_rfl)
#print axioms proved
end Go.Proofs.YtfcodmdckcihmaaDoor.verifyHonest
namespace Go.Proofs.YtfcodmdckcihmaaDoor
/-- The row, under a short name, for the claim. -/
theorem verifyHonest_holds : Rows.VerifyHonestCardSaid := verifyHonest.proved
end Go.Proofs.YtfcodmdckcihmaaDoor
