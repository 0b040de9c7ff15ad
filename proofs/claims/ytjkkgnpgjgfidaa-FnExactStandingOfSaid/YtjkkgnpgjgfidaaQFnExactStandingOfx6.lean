-- written by a program of this session, pm.py, for this claim
-- half the indentation
import Derived.Test.YtjkkgnpgjgfidaaQFnExactStandingOfx0
import Derived.Test.YtjkkgnpgjgfidaaQFnExactStandingOfx5
namespace Go.Proofs.Ytjkkgnpgjgfidaa.Q
open Go.RowKit Go.Proofs.YtjkkgnpgjgfidaaW.PrintWords Go.Proofs.YtjkkgnpgjgfidaaW.PrintLast Go.Proofs.YtjkkgnpgjgfidaaW.PrintMore
attribute [local go_sem] max2_int min2_int max_two min_two max_three min_three max_four min_four   -- for this text's walks alone
set_option linter.unusedVariables false
set_option linter.unusedSimpArgs false

/-! ### impl_Tri_set: function 71 -/
def impl_Tri_set.l0 : Nat → Int → List Int → Int → Int → Option (Int)
 | 0, _, _, _, _ => none
 | k + 1, x3, x7, x8, x9 => if x9 < x8 then (if 0 ≤ x9 then (if x9 < (x7.length : Int) then (if 0 ≤ (rd x7 x9) then (impl_Tri_set.l0 k (Go.bits .or .u64 x3 (shl .u64 1 (rd x7 x9))) x7 x8 (wrap64 (x9 + 1))) else (none)) else (none)) else (none)) else (some x3)
def impl_Tri_set.f (k : Nat) (a0_0 : Int) (l0_1 : List Int) : Option (Int) := impl_Tri_set.l0 k 0 l0_1 (l0_1.length : Int) 0
theorem impl_Tri_set.mono_l : ∀ k, (∀ y0 y1 y2 y3, LeO (impl_Tri_set.l0 k y0 y1 y2 y3) (impl_Tri_set.l0 (k + 1) y0 y1 y2 y3))
 | 0 => fun _ _ _ _ r h => by simp [impl_Tri_set.l0] at h
 | k + 1 => by
  have ih0 := impl_Tri_set.mono_l k
  ·intro y0 y1 y2 y3
   unfold impl_Tri_set.l0
   repeat' first
   | (with_reducible exact ih0 _ _ _ _)
   | (with_reducible exact LeO.refl _)
   | (with_reducible exact LeO.none _)
   | (with_reducible refine LeO.ite ?_ ?_)
   | (with_reducible refine LeO.bind ?_ (fun _ => ?_))
   | exact ih0 _ _ _ _
   | exact LeO.none _
   | refine LeO.ite ?_ ?_
   | refine LeO.bind ?_ (fun _ => ?_)
theorem impl_Tri_set.mono : ∀ a0 a1 k, LeO (impl_Tri_set.f k a0 a1) (impl_Tri_set.f (k + 1) a0 a1) := by
 intro a0 a1 k
 have ih0 := impl_Tri_set.mono_l k
 unfold impl_Tri_set.f
 repeat' first
   | (with_reducible exact ih0 _ _ _ _)
   | (with_reducible exact LeO.refl _)
   | (with_reducible exact LeO.none _)
   | (with_reducible refine LeO.ite ?_ ?_)
   | (with_reducible refine LeO.bind ?_ (fun _ => ?_))
   | exact ih0 _ _ _ _
   | exact LeO.none _
   | refine LeO.ite ?_ ?_
   | refine LeO.bind ?_ (fun _ => ?_)
set_option maxHeartbeats 8000000 in
set_option maxRecDepth 100000 in
theorem impl_Tri_set.calls (k : Nat) (a0_0 : Int) (A0_1 : Option Addr) (c0_1 : Nat) (l0_1 : List Int) (r : Int) (w : World) (hr0_1 : Kd.C (Kd.int .i64) w A0_1 l0_1.length l0_1) (hc0_1 : l0_1.length ≤ c0_1) (h : impl_Tri_set.f k a0_0 l0_1 = some r) :
  Calls Try.prog 71 #[.agg #[.int .i64 a0_0, .slice A0_1 l0_1.length c0_1]] w fun e w' => e = .returned (.int .u64 r) ∧ Below w.heap.size w w' := by
 have hu28 := Try.underlying28
 have HR0_1 := Aside0.mk hr0_1
 have HC0_1 := Aside0.mk hc0_1
 clear hr0_1 hc0_1
 have HB := Aside0.mk (Below.refl w.heap.size w)
 have H : (impl_Tri_set.l0 k 0 l0_1 (l0_1.length : Int) 0) = some r := h
 clear h
 have H' := Aside0.mk H
 clear H
 go_enter Try.func71, Try.ntmps71
 go_wp2_with (first | ((with_reducible refine gate_dst (N := 1) rfl ?_); refine box_event ?hg (N := 1) ?hd (cs := #[.int .i64 a0_0, .slice A0_1 l0_1.length c0_1]) (t := 28) ?hr ?_; (case hd => rfl); (case hg => rfl); (case hr => first | (go_simp; done) | (go_simp; rfl)); intro gb192 hg w2 hbox hb; have n0_ := Aside0.mk (below_step (by repeat (first | (with_reducible first | exact HB.out | apply below_alloc | apply pw_below_drewN | apply below_drew1) | exact HB.out)) hb); have n1_ := Aside0.mk (hbox); have n2_ := Aside0.mk ((by rw [hg]; exact (below_size (by repeat (first | (with_reducible first | exact HB.out | apply below_alloc | apply pw_below_drewN | apply below_drew1) | exact HB.out))) : w.heap.size ≤ gb192)); have n3_ := Aside0.mk ((by rw [hg]; exact (below_size (by repeat (first | (with_reducible first | exact HB.out | apply below_alloc | apply pw_below_drewN | apply below_drew1) | exact HB.out))) : w.heap.size ≤ gb192)); clear HB; have HB := n0_; have BK192 := n1_; have GW192 := n2_; have GE192 := n3_; clear n0_ n1_ n2_ n3_; clear hb hbox hg; have hcz3_0 : w2.cell? ⟨gb192, 0, none⟩ = some (.int .i64 a0_0) := (blk_cell BK192.out 0).trans rfl; have hcz3_1 : w2.cell? ⟨gb192, 1, none⟩ = some (.slice A0_1 l0_1.length c0_1) := (blk_cell BK192.out 1).trans rfl; have hfz3_0 := blk_frozen BK192.out 0; have hfz3_1 := blk_frozen BK192.out 1))
 go_loopg [3, 9] k (fun kq v3 v9 w' => ∃ (x3_1 : Int) (x9_1 : Int), v3 = .int .u64 x3_1 ∧ v9 = .int .i64 x9_1 ∧ Aside0 (impl_Tri_set.l0 kq x3_1 l0_1 (l0_1.length : Int) x9_1 = some r) ∧ Aside0 (kq ≤ k) ∧ Aside0 (w'.heap[gb192]? = some (.cells #[.int .i64 a0_0, (.slice A0_1 l0_1.length c0_1)] 28 (0, 0))) ∧ Aside0 (Below w.heap.size w w'))
 case atStart => exact ⟨(0), (0), (by first | rfl | (simp; done) | (simp [*]; done)), (by first | rfl | (simp; done) | (simp [*]; done)), H', ⟨Nat.le_refl _⟩, ⟨by (with_reducible repeat (first | refine blk_drewN ?_ _ | refine blk_drew ?_ | refine blk_alloc ?_ _)); exact BK192.out⟩, ⟨by repeat (first | (with_reducible first | exact HB.out | apply below_alloc | apply pw_below_drewN | apply below_drew1 | refine below_set ?_ GE192.out) | exact HB.out)⟩⟩
 case round =>
  clear H'
  try clear p2
  try clear hcz3_0
  try clear hcz3_1
  try clear hfz3_0
  try clear hfz3_1
  obtain ⟨x3_1, x9_1, rfl, rfl, HA, HK1, BK192, HB⟩ := hrel
  cases gk with
  | zero => exact absurd HA.out (by simp [impl_Tri_set.l0])
  | succ k1 =>
   have H := HA.out
   clear HA
   simp only [impl_Tri_set.l0] at H
   by_cases c4 : x9_1 < (l0_1.length : Int)
   ·rw [if_pos c4] at H
    have c4b0 : decide (x9_1 < (l0_1.length : Int)) = true := decide_eq_true c4
    clear c4
    by_cases c5 : 0 ≤ x9_1
    ·rw [if_pos c5] at H
     have c5b0 : decide (0 ≤ x9_1) = true := decide_eq_true c5
     clear c5
     by_cases c6 : x9_1 < (l0_1.length : Int)
     ·rw [if_pos c6] at H
      have c6b0 : decide (x9_1 < (l0_1.length : Int)) = true := decide_eq_true c6
      clear c6
      by_cases c7 : 0 ≤ (rd l0_1 x9_1)
      ·rw [if_pos c7] at H
       have c7b0 := eq_true c7
       have c7b1 : decide (0 ≤ (rd l0_1 x9_1)) = true := decide_eq_true c7
       clear c7
       obtain ⟨ji8, hji8⟩ : ∃ j_ : Int, (shl .u64 1 (rd l0_1 x9_1)) = j_ := ⟨_, rfl⟩
       replace H : (impl_Tri_set.l0 k1 (Go.bits .or .u64 x3_1 (ji8)) l0_1 (l0_1.length : Int) (wrap64 (x9_1 + 1))) = some r := by first | (rw [hji8] at H; exact H) | (simp only [hji8] at H ⊢; exact H)
       have hji8_ : (IntKind.u64.wrap (1 * 2 ^ min (rd l0_1 x9_1).toNat 64)) = ji8 := hji8
       have hji8z : (rd l0_1 x9_1) ≤ 64 → (IntKind.u64.wrap (1 * 2 ^ (rd l0_1 x9_1).toNat)) = ji8 := shl_small hji8
       have hji8u : (IntKind.u64.wrap (2 ^ min (rd l0_1 x9_1).toNat 64)) = ji8 := by have h_ := hji8_; rw [Int.one_mul] at h_; exact h_
       have hji8v : (rd l0_1 x9_1) ≤ 64 → (IntKind.u64.wrap (2 ^ (rd l0_1 x9_1).toNat)) = ji8 := fun hle_ => by have h_ := hji8z hle_; rw [Int.one_mul] at h_; exact h_
       have H' := Aside0.mk H
       clear H
       have p193 : 0 ≤ (x9_1 : Int) := of_decide_eq_true (by first | (with_reducible assumption) | assumption)
       have q193 : x9_1 < (l0_1.length : Int) := of_decide_eq_true (by first | (with_reducible assumption) | assumption)
       obtain ⟨ad193, e193, hx193_0⟩ := Kd.at_int HR0_1.out x9_1 p193 q193
       cases e193
       replace hx193_0 := (HB.out.cell (World.block_lt_of_cell? w _ hx193_0)).trans hx193_0
       replace p193 := eq_true p193
       replace q193 := eq_true q193
       go_wp2
       go_roundg k1
       case measure => have := HK1.out; omega
       case rel => exact ⟨(Go.bits .or .u64 x3_1 (ji8)), (wrap64 (x9_1 + 1)), (by first | rfl | (simp; done) | (simp only [← hji8] <;> (first | rfl | simp)) | (simp [*]; done)), (by first | rfl | (simp; done) | (simp [*]; done)), H', ⟨by have := HK1.out; omega⟩, ⟨by (with_reducible repeat (first | refine blk_drewN ?_ _ | refine blk_drew ?_ | refine blk_alloc ?_ _)); exact BK192.out⟩, ⟨by repeat (first | (with_reducible first | exact HB.out | apply below_alloc | apply pw_below_drewN | apply below_drew1 | refine below_set ?_ GE192.out) | exact HB.out)⟩⟩
      ·rw [if_neg c7] at H
       exact absurd H (by simp)
     ·rw [if_neg c6] at H
      exact absurd H (by simp)
    ·rw [if_neg c5] at H
     exact absurd H (by simp)
   ·rw [if_neg c4] at H
    have c4b0 : decide (x9_1 < (l0_1.length : Int)) = false := decide_eq_false c4
    clear c4
    obtain rfl := Option.some.inj H
    go_wp2
    go_ret
    exact ⟨by first | rfl | (simp [errW_none, errW_some] <;> rfl) | (simp [*, errW_none, errW_some] <;> rfl), by repeat (first | (with_reducible first | exact HB.out | apply below_alloc | apply pw_below_drewN | apply below_drew1 | refine below_set ?_ GE192.out) | exact HB.out)⟩

/-! ### impl_there: function 38 -/
def impl_there.l0 : Nat → List (List Int) → List (S101) → Int → Int → Int → List Int → Option ((List (List Int)) × Bool)
 | 0, _, _, _, _, _, _ => none
 | k + 1, x6, x10, x11, x12, x195000, x195001 => if x12 < x11 then (if 0 ≤ x12 then (if x12 < (x10.length : Int) then ((impl_Tri_set.f k x195000 x195001).bind fun t200 => (if (Go.bits .andNot .u64 ((rd_T101 x10 x12).f1) t200) = 0 then (if x6.length < 5864062014805 then (impl_there.l0 k (x6 ++ [(rd_T101 x10 x12).f0]) x10 x11 (wrap64 (x12 + 1)) x195000 x195001) else (none)) else (impl_there.l0 k x6 x10 x11 (wrap64 (x12 + 1)) x195000 x195001))) else (none)) else (none)) else (some (x6, true))
def impl_there.f (k : Nat) (a0_0 : Int) (l0_1 : List Int) (l1 : List (S101)) : Option ((List (List Int)) × Bool) := impl_there.l0 k (([] : List (List Int))) l1 (l1.length : Int) 0 a0_0 l0_1
theorem impl_there.mono_l : ∀ k, (∀ y0 y1 y2 y3 y4 y5, LeO (impl_there.l0 k y0 y1 y2 y3 y4 y5) (impl_there.l0 (k + 1) y0 y1 y2 y3 y4 y5))
 | 0 => fun _ _ _ _ _ _ r h => by simp [impl_there.l0] at h
 | k + 1 => by
  have ih0 := impl_there.mono_l k
  ·intro y0 y1 y2 y3 y4 y5
   unfold impl_there.l0
   repeat' first
   | (with_reducible exact ih0 _ _ _ _ _ _)
   | (with_reducible exact impl_Tri_set.mono _ _ _)
   | (with_reducible exact LeO.refl _)
   | (with_reducible exact LeO.none _)
   | (with_reducible refine LeO.ite ?_ ?_)
   | (with_reducible refine LeO.bind ?_ (fun _ => ?_))
   | exact ih0 _ _ _ _ _ _
   | exact impl_Tri_set.mono _ _ _
   | exact LeO.none _
   | refine LeO.ite ?_ ?_
   | refine LeO.bind ?_ (fun _ => ?_)
theorem impl_there.mono : ∀ a0 a1 a2 k, LeO (impl_there.f k a0 a1 a2) (impl_there.f (k + 1) a0 a1 a2) := by
 intro a0 a1 a2 k
 have ih0 := impl_there.mono_l k
 unfold impl_there.f
 repeat' first
   | (with_reducible exact ih0 _ _ _ _ _ _)
   | (with_reducible exact impl_Tri_set.mono _ _ _)
   | (with_reducible exact LeO.refl _)
   | (with_reducible exact LeO.none _)
   | (with_reducible refine LeO.ite ?_ ?_)
   | (with_reducible refine LeO.bind ?_ (fun _ => ?_))
   | exact ih0 _ _ _ _ _ _
   | exact impl_Tri_set.mono _ _ _
   | exact LeO.none _
   | refine LeO.ite ?_ ?_
   | refine LeO.bind ?_ (fun _ => ?_)
/-- What the cells of a row of triangles tell. -/
def toldAt (w : World) (A : Option Addr) (i : Nat) : Value := match A with
 | some ad => (w.cell? (ad.add (i * 2))).getD undef
 | none => undef
theorem toldAt_is {w w1 : World} {A : Option Addr} {l : List S101} (hr : Kd.C k101 w A l.length l) (hb : Below w.heap.size w w1) (i : Int) (h0 : 0 ≤ i) (h1 : i < (l.length : Int)) :
  ∃ ad A0 c0, A = some ad ∧ w1.cell? (ad.add (i.toNat * 2)) = some (.slice A0 (rd_T101 l i).f0.length c0) ∧ w1.cell? ⟨(ad.add (i.toNat * 2)).block, (ad.add (i.toNat * 2)).off + 1, none⟩ = some (.int .u64 (rd_T101 l i).f1) ∧ toldAt w A i.toNat = .slice A0 (rd_T101 l i).f0.length c0 := by
 obtain ⟨ad, A0, c0, rfl, hx0, hx1, _, _⟩ := at_T101 hr i h0 h1
 exact ⟨ad, A0, c0, rfl, (hb.cell (World.block_lt_of_cell? _ _ hx0)).trans hx0, (hb.cell (World.block_lt_of_cell? _ _ hx1)).trans hx1, by simp only [toldAt, hx0]; rfl⟩
theorem cell_keepT {wc w1 : World} {p : Addr} {v : Value} (h : wc.cell? p = some v) (hb : Below wc.heap.size wc w1) : w1.cell? p = some v := (hb.cell (World.block_lt_of_cell? _ _ h)).trans h
theorem keep3 {W wc w1 : World} {p0 p1 p2 : Addr} {v0 v1 v2 : Value} (h : Below W.heap.size W wc ∧ wc.cell? p0 = some v0 ∧ wc.cell? p1 = some v1 ∧ wc.cell? p2 = some v2) (hb : Below wc.heap.size wc w1) : Below W.heap.size W w1 ∧ w1.cell? p0 = some v0 ∧ w1.cell? p1 = some v1 ∧ w1.cell? p2 = some v2 := ⟨h.1.trans (hb.mono h.1.size), cell_keepT h.2.1 hb, cell_keepT h.2.2.1 hb, cell_keepT h.2.2.2 hb⟩
theorem S_of_told {w w1 : World} {base n c1 : Nat} {okl : Nat → Prop} {A1 : Option Addr} {l : List S101} {v0 : Value} {sel : List Nat} (hS : Kd.S k101 101 w base okl (.slice A1 n c1) l) (hb : Below w.heap.size w w1) (hbase : base ≤ w.heap.size)
  (hR : (Kd.raw 1).R 22 w1 w.heap.size (fun _ => True) v0 (sel.map fun i => [toldAt w A1 i])) (hp : sel.Pairwise (· < ·)) (hi : ∀ i ∈ sel, i < l.length) : Kd.S (Kd.slice 3 (Kd.int .i64)) 22 w1 base (fun _ => True) v0 (sel.map fun i : Nat => (rd_T101 l (i : Int)).f0) := by
 have hRb := Kd.R_base hR
 have hn := (Kd.S_reads' hS).1
 have hC := (Kd.S_reads' hS).2.2
 obtain ⟨f, hS⟩ := Kd.S_bound hS
 obtain ⟨_, inner, ho, hl, hr⟩ := Kd.R_lower hR hbase
 rw [List.length_map] at ho hl
 have hnd := List.pairwise_iff_getElem.1 hp
 obtain ⟨f', hf'⟩ := Kd.reps_tag (d := Kd.slice 3 (Kd.int .i64)) (w := w1) (base := base) (ok := fun k => True ∧ some k ≠ v0.ownBlock) (xs := sel.map fun i : Nat => (rd_T101 l (i : Int)).f0) (inner := inner) (fun j k => k < w.heap.size ∧ ∃ i, sel[j]? = some i ∧ f k = i)
  (fun i j k h1 h2 => by
   obtain ⟨_, a, ha, ea⟩ := h1
   obtain ⟨_, b, hb, eb⟩ := h2
   obtain rfl : a = b := ea.symm.trans eb
   obtain ⟨hia, ha⟩ := List.getElem?_eq_some_iff.1 ha
   obtain ⟨hjb, hb⟩ := List.getElem?_eq_some_iff.1 hb
   rcases Nat.lt_trichotomy i j with h | h | h
   ·have := hnd i j hia hjb h
    omega
   ·exact h
   ·have := hnd j i hjb hia h
    omega)
  (fun j k h => ⟨trivial, fun he => by have := hRb k he.symm; omega⟩) (by rw [List.length_map]; exact hl)
  (fun j x hx => by
   rw [List.getElem?_map] at hx
   obtain ⟨i, hji, rfl⟩ := Option.map_eq_some_iff.1 hx
   have hil := hi i (List.mem_of_getElem? hji)
   have h1 := hr j [toldAt w A1 i] (by rw [List.getElem?_map, hji]; rfl)
   obtain ⟨ad, A0, c0, rfl, hx0, _, ht⟩ := toldAt_is hC (Below.refl _ w) (i : Int) (by omega) (by omega)
   rw [Int.toNat_natCast] at hx0 ht
   obtain ⟨c, hcl, hM, hcc⟩ := Kd.R_getA hS (⟨[], 0⟩, 0) (i : Int) (by omega) (by omega)
   have hg : (l.zipIdx.getD (i : Int).toNat (⟨[], 0⟩, 0)) = (rd_T101 l (i : Int), i) := by
    unfold rd_T101
    rw [Int.toNat_natCast, List.getD_eq_getElem?_getD, Kd.zip_at (List.getElem?_eq_getElem hil), List.getD_eq_getElem?_getD, List.getElem?_eq_getElem hil]
    rfl
   rw [hg] at hM
   obtain ⟨u, rfl, hu⟩ := k101_openM (show k101.M w base (fun k => _) (rd_T101 l (i : Int)) c from hM)
   have h2 := hcc 0 u rfl
   rw [Int.toNat_natCast] at h2
   have h3 : u = toldAt w (some ad) i := by
    rw [ht]
    have : (ad.add (i * 2 + 0)) = ad.add (i * 2) := by rw [Nat.add_zero]
    rw [show (Kd.tag f k101).sz = 2 from rfl, this, hx0] at h2
    exact (Option.some.inj h2).symm
   refine ⟨u, ?_, ?_⟩
   ·rw [h3]
    exact h1.1
   ·exact Kd.R_below (Kd.R_mono hu (fun k hk => ⟨hk.1.1.2.2.1, i, hji, hk.2⟩)) hb)
 refine ⟨f', fun _ _ => trivial, inner, by rw [List.length_zipIdx, List.length_map]; exact ho, hf'⟩
theorem next_i {x : Int} {n : Nat} (h0 : 0 ≤ x) (h1 : x < (n : Int)) (hm : n ≤ 9223372036854775807) : wrap64 (x + 1) = x + 1 := by unfold wrap64; omega
theorem next_sel {x : Int} {n : Nat} {sel : List Nat} (h : 0 ≤ x ∧ sel.Pairwise (· < ·) ∧ ∀ i ∈ sel, (i : Int) < x ∧ i < n) (h1 : x < (n : Int)) : 0 ≤ x + 1 ∧ (sel ++ [x.toNat]).Pairwise (· < ·) ∧ ∀ i ∈ sel ++ [x.toNat], (i : Int) < x + 1 ∧ i < n := by
 obtain ⟨h0, hp, hi⟩ := h
 refine ⟨by omega, List.pairwise_append.2 ⟨hp, List.pairwise_singleton _ _, fun a ha b hb => ?_⟩, fun i hm => ?_⟩
 ·rw [List.mem_singleton.1 hb]
  have := (hi a ha).1
  omega
 ·rcases List.mem_append.1 hm with hm | hm
  ·have := hi i hm
   omega
  ·rw [List.mem_singleton.1 hm]
   omega
theorem stay_sel {x : Int} {n : Nat} {sel : List Nat} (h : 0 ≤ x ∧ sel.Pairwise (· < ·) ∧ ∀ i ∈ sel, (i : Int) < x ∧ i < n) : 0 ≤ x + 1 ∧ sel.Pairwise (· < ·) ∧ ∀ i ∈ sel, (i : Int) < x + 1 ∧ i < n := by
 obtain ⟨h0, hp, hi⟩ := h
 exact ⟨by omega, hp, fun i hm => by have := hi i hm; omega⟩
theorem next_f {l : List S101} {sel : List Nat} {x : Int} (h0 : 0 ≤ x) : ((sel ++ [x.toNat]).map fun i : Nat => (rd_T101 l (i : Int)).f0) = (sel.map fun i : Nat => (rd_T101 l (i : Int)).f0) ++ [(rd_T101 l x).f0] := by
 rw [List.map_append, List.map_singleton, Int.toNat_of_nonneg h0]
theorem next_t {w : World} {A : Option Addr} {sel : List Nat} {x : Int} {v : Value} (h : toldAt w A x.toNat = v) : ((sel ++ [x.toNat]).map fun i => [toldAt w A i]) = (sel.map fun i => [toldAt w A i]) ++ [[v]] := by
 rw [List.map_append, List.map_singleton, h]
set_option maxHeartbeats 8000000 in
set_option maxRecDepth 100000 in
/-- Those that are there, told by where they stand in the list. -/
theorem impl_there.calls (k : Nat) (a0_0 : Int) (A0_1 : Option Addr) (c0_1 : Nat) (l0_1 : List Int) (A1 : Option Addr) (c1 : Nat) (l1 : List S101) (r1 : List (List Int)) (r2 : Bool) (w : World) (hr0_1 : Kd.C (Kd.int .i64) w A0_1 l0_1.length l0_1) (hc0_1 : l0_1.length ≤ c0_1) (hr1 : Kd.C k101 w A1 l1.length l1) (hm : l1.length ≤ 9223372036854775807) (h : impl_there.f k a0_0 l0_1 l1 = some (r1, r2)) :
  Calls Try.prog 38 #[.agg #[.int .i64 a0_0, .slice A0_1 l0_1.length c0_1], .slice A1 l1.length c1] w fun e w' => ∃ (v0_ : Value) (sel : List Nat), e = .returned (.tuple #[v0_, .bool r2]) ∧ r1 = sel.map (fun i : Nat => (rd_T101 l1 (i : Int)).f0) ∧ sel.Pairwise (· < ·) ∧ (∀ i ∈ sel, i < l1.length) ∧ Kd.R (Kd.raw 1) 22 w' w.heap.size (fun _ => True) v0_ (sel.map fun i => [toldAt w A1 i]) ∧ Below w.heap.size w w' := by
 have HR0 := Aside0.mk hr0_1
 have HC0 := Aside0.mk hc0_1
 have HR1 := Aside0.mk hr1
 have HM := Aside0.mk hm
 have H' := Aside0.mk (show impl_there.l0 k [] l1 (l1.length : Int) 0 a0_0 l0_1 = some (r1, r2) from h)
 clear hr0_1 hc0_1 hr1 hm h
 have BT := Aside0.mk (blk_new w (.cells #[.int .i64 a0_0, .slice A0_1 l0_1.length c0_1] 28))
 have HB := Aside0.mk (below_alloc (Below.refl w.heap.size w) (.cells #[.int .i64 a0_0, .slice A0_1 l0_1.length c0_1] 28))
 go_enter Try.func38, Try.ntmps38
 go_upto_region 1 with (fail)
 generalize w.alloc (.cells #[.int .i64 a0_0, .slice A0_1 l0_1.length c0_1] 28) = W0 at BT HB ⊢
 go_wp2_with ((with_reducible refine gate_dst (N := 9) rfl ?_); refine Kd.R_lit (Kd.raw 1) w.heap.size 22 ?hg (N := 9) ?hd (xs := ([] : List (List Value))) (inner := []) (ok := fun _ => True) (okp := fun _ => True) ?hr ?hp (fun _ hk => hk) trivial HB.out HB.out.size (by decide) ?_; (case hd => rfl); (case hg => rfl); (case hr => first | (go_simp; done) | (go_simp; rfl)); (case hp => exact ⟨rfl, fun j p hj => by simp at hj⟩); intro v1 w1 ho hb hg hat; have BT1 := Aside0.mk (blk_grown BT.out hg (by simp)); have HB1 := Aside0.mk hb; have HO1 := Aside0.mk ho; clear ho hb hg hat BT HB)
 go_loopg [6, 12] k (fun kq v6 v12 w' => ∃ (sel : List Nat) (x12 : Int), v12 = .int .i64 x12 ∧ Aside0 (impl_there.l0 kq (sel.map fun i : Nat => (rd_T101 l1 (i : Int)).f0) l1 (l1.length : Int) x12 a0_0 l0_1 = some (r1, r2)) ∧ Aside0 (kq ≤ k) ∧ Aside0 (0 ≤ x12 ∧ sel.Pairwise (· < ·) ∧ ∀ i ∈ sel, (i : Int) < x12 ∧ i < l1.length) ∧ Aside0 (Kd.R (Kd.raw 1) 22 w' w.heap.size (fun _ => True) v6 (sel.map fun i => [toldAt w A1 i])) ∧ Aside0 (w'.heap[w.heap.size]? = some (.cells #[.int .i64 a0_0, .slice A0_1 l0_1.length c0_1] 28 (0, 0))) ∧ Aside0 (Below w.heap.size w w'))
 case atStart => exact ⟨[], 0, rfl, H', ⟨Nat.le_refl _⟩, ⟨Int.le_refl _, List.Pairwise.nil, fun _ h => by cases h⟩, HO1, BT1, HB1⟩
 case round =>
  clear H' HO1 BT1 HB1
  obtain ⟨sel, x12, rfl, HA, HK, HI, HO, BT, HB⟩ := hrel
  cases gk with
  | zero => exact absurd HA.out (by simp [impl_there.l0])
  | succ k1 =>
   have H := HA.out
   clear HA
   simp only [impl_there.l0] at H
   by_cases q1 : x12 < (l1.length : Int)
   ·rw [if_pos q1, if_pos HI.out.1, if_pos q1] at H
    obtain ⟨t, hset, H⟩ := Option.bind_eq_some_iff.mp H
    have HT := Aside0.mk hset
    have H' := Aside0.mk H
    obtain ⟨ad, A0, c0, rfl, hx0, hx1, ht⟩ := toldAt_is HR1.out HB.out x12 HI.out.1 q1
    have HTo := Aside0.mk ht
    have c1b : decide (x12 < (l1.length : Int)) = true := decide_eq_true q1
    have c1c : decide (0 ≤ x12) = true := decide_eq_true HI.out.1
    have c1d : (0 ≤ x12) = True := eq_true HI.out.1
    have c1e : (x12 < (l1.length : Int)) = True := eq_true q1
    have C1 := Aside0.mk q1
    clear hset H ht q1
    go_upto_region 5 with (fail)
    have BX0 := Aside0.mk (blk_new wr (.cells #[.slice A0 (rd_T101 l1 x12).f0.length c0, .int .u64 (rd_T101 l1 x12).f1] 101))
    have BT0 := Aside0.mk (blk_alloc BT.out (.cells #[.slice A0 (rd_T101 l1 x12).f0.length c0, .int .u64 (rd_T101 l1 x12).f1] 101))
    have HB0 := Aside0.mk (below_alloc HB.out (.cells #[.slice A0 (rd_T101 l1 x12).f0.length c0, .int .u64 (rd_T101 l1 x12).f1] 101))
    have HO0 := Aside0.mk (Kd.R_alloc HO.out (.cells #[.slice A0 (rd_T101 l1 x12).f0.length c0, .int .u64 (rd_T101 l1 x12).f1] 101))
    generalize wr.alloc (.cells #[.slice A0 (rd_T101 l1 x12).f0.length c0, .int .u64 (rd_T101 l1 x12).f1] 101) = W4 at BX0 BT0 HB0 HO0 ⊢
    generalize wr.heap.size = gx at BX0 ⊢
    clear hx0 hx1 BT HB HO
    have hz0 := (blk_cell BX0.out 1).trans rfl
    have hz1 := (blk_cell BT0.out 0).trans rfl
    have hz2 := (blk_cell BT0.out 1).trans rfl
    generalize (rd_T101 l1 x12).f1 = E at H' hz0 BX0 ⊢
    by_cases q2 : Go.bits .andNot .u64 E t = 0
    ·have q2b : (Go.bits .andNot .u64 E t == 0) = true := beq_iff_eq.mpr q2
     have H1 := H'.out
     rw [if_pos q2] at H1
     clear H' q2
     go_cut [21] (fun v wc => v = .bool true ∧ Aside0 (Below W4.heap.size W4 wc))
     ·go_region_held3 (fun w' => Below W4.heap.size W4 w' ∧ w'.cell? ⟨gx, 1, none⟩ = some (.int .u64 E) ∧ w'.cell? ⟨w.heap.size, 0, none⟩ = some (.int .i64 a0_0) ∧ w'.cell? ⟨w.heap.size, 1, none⟩ = some (.slice A0_1 l0_1.length c0_1))
       (first | exact ⟨below_drew (Below.refl _ _), hz0, hz1, hz2⟩ | exact keep3 (by assumption) hb3)
       ((go_at_call 71; with_reducible refine (impl_Tri_set.calls k1 a0_0 _ _ l0_1 t _ (Kd.C_below HR0.out (HB0.out.trans ((And.left (by assumption : Below _ _ _ ∧ _)).mono HB0.out.size))) HC0.out HT.out).mono ?_; rintro e w3 ⟨rfl, hb3⟩))
      all_goals
       have hBz := And.left (by assumption : Below W4.heap.size W4 _ ∧ _)
       go_wp2
       go_meet
       case rel => exact ⟨rfl, ⟨hBz⟩⟩
     obtain ⟨rfl, HBc⟩ := hcut
     have BX := Aside0.mk (blk_below BX0.out HBc.out)
     have BT := Aside0.mk (blk_below BT0.out HBc.out)
     have HB := Aside0.mk (HB0.out.trans (HBc.out.mono HB0.out.size))
     have HO := Aside0.mk (Kd.R_below HO0.out HBc.out)
     clear BX0 BT0 HB0 HO0 HBc hz0 hz1 hz2 q2b
     by_cases q3 : (sel.map fun i : Nat => (rd_T101 l1 (i : Int)).f0).length < 5864062014805
     case neg => rw [if_neg q3] at H1; cases H1
     rw [if_pos q3] at H1
     rw [List.length_map] at q3
     have H' := Aside0.mk H1
     have Q3 := Aside0.mk q3
     clear H1 q3
     have hy0 := (blk_cell BX.out 0).trans rfl
     go_wp2_with ((with_reducible refine gate_builtin (b := .append) (xs := #[.tmp 22, .tmp 25]) rfl ?_); at_builtin; refine Kd.R_append (Kd.raw 1) (w0 := w) w.heap.size rfl (.tmp 22) (.tmp 25) 32 22 (.slice none 0 0) 24 rfl Try.underlying32 info22 rfl (by decide) (by omega) u6 (sel.map fun i => [toldAt w (some ad) i]) [.slice A0 (rd_T101 l1 x12).f0.length c0] [.slice A0 (rd_T101 l1 x12).f0.length c0] (fun _ => True) (fun _ => False) rfl rfl ⟨rfl, rfl, fun u hu => by rw [List.mem_singleton.1 hu]; rfl⟩ (fun _ hk => hk.elim) (fun _ _ => trivial) HO.out HB.out HB.out.size (by have := Q3.out; rw [List.length_map]; omega) ?_; intro v9 w9 ho hb hg hat; have BT1 := Aside0.mk (blk_grown BT.out hg (Kd.R_ne HO.out BT.out (by decide))); have HB1 := Aside0.mk hb; have HO1 := Aside0.mk ho; clear ho hb hg hat)
     have hw := next_i HI.out.1 C1.out HM.out
     have hs := next_sel HI.out C1.out
     have hf := next_f (l := l1) (sel := sel) HI.out.1
     have ht := next_t (w := w) (A := some ad) (sel := sel) HTo.out
     go_roundg k1
     case measure => have := HK.out; omega
     case rel => exact ⟨sel ++ [x12.toNat], wrap64 (x12 + 1), rfl, ⟨by rw [hf]; exact H'.out⟩, ⟨by have := HK.out; omega⟩, ⟨by rw [hw]; exact hs⟩, ⟨by rw [ht]; exact HO1.out⟩, BT1, HB1⟩
    ·have q2b : (Go.bits .andNot .u64 E t == 0) = false := beq_eq_false_iff_ne.mpr q2
     have H1 := H'.out
     rw [if_neg q2] at H1
     clear H' q2
     have H' := Aside0.mk H1
     clear H1
     go_cut [21] (fun v wc => v = .bool false ∧ Aside0 (Below W4.heap.size W4 wc))
     ·go_region_held3 (fun w' => Below W4.heap.size W4 w' ∧ w'.cell? ⟨gx, 1, none⟩ = some (.int .u64 E) ∧ w'.cell? ⟨w.heap.size, 0, none⟩ = some (.int .i64 a0_0) ∧ w'.cell? ⟨w.heap.size, 1, none⟩ = some (.slice A0_1 l0_1.length c0_1))
       (first | exact ⟨below_drew (Below.refl _ _), hz0, hz1, hz2⟩ | exact keep3 (by assumption) hb3)
       ((go_at_call 71; with_reducible refine (impl_Tri_set.calls k1 a0_0 _ _ l0_1 t _ (Kd.C_below HR0.out (HB0.out.trans ((And.left (by assumption : Below _ _ _ ∧ _)).mono HB0.out.size))) HC0.out HT.out).mono ?_; rintro e w3 ⟨rfl, hb3⟩))
      all_goals
       have hBz := And.left (by assumption : Below W4.heap.size W4 _ ∧ _)
       go_wp2
       go_meet
       case rel => exact ⟨rfl, ⟨hBz⟩⟩
     obtain ⟨rfl, HBc⟩ := hcut
     have BT := Aside0.mk (blk_below BT0.out HBc.out)
     have HB := Aside0.mk (HB0.out.trans (HBc.out.mono HB0.out.size))
     have HO := Aside0.mk (Kd.R_below HO0.out HBc.out)
     clear BX0 BT0 HB0 HO0 HBc hz0 hz1 hz2 q2b
     go_wp2
     have hw := next_i HI.out.1 C1.out HM.out
     have hs := stay_sel HI.out
     go_roundg k1
     case measure => have := HK.out; omega
     case rel => exact ⟨sel, wrap64 (x12 + 1), rfl, H', ⟨by have := HK.out; omega⟩, ⟨by rw [hw]; exact hs⟩, HO, BT, HB⟩
   ·rw [if_neg q1] at H
    obtain ⟨rfl, rfl⟩ := Prod.mk.inj (Option.some.inj H)
    have c1b : decide (x12 < (l1.length : Int)) = false := decide_eq_false q1
    clear H q1
    go_wp2
    go_ret2
    exact ⟨_, sel, rfl, rfl, HI.out.2.1, fun i hi => (HI.out.2.2 i hi).2, HO.out, HB.out⟩

/-! ### impl_side: function 72 -/
def impl_side.f (a0 : Int) (a1 : Int) (a2 : Int) : Option (Int) := if 0 ≤ (wrap64 ((wrap64 (3 * (wrap64 ((wrap64 (Int.tdiv (wrap64 (a0 * (wrap64 (a0 + 1)))) 2)) + a1)))) + a2)) then (some (shl .u64 1 (wrap64 ((wrap64 (3 * (wrap64 ((wrap64 (Int.tdiv (wrap64 (a0 * (wrap64 (a0 + 1)))) 2)) + a1)))) + a2)))) else (none)
set_option maxHeartbeats 8000000 in
set_option maxRecDepth 100000 in
theorem impl_side.calls (a0 : Int) (a1 : Int) (a2 : Int) (r : Int) (w : World) (h : impl_side.f a0 a1 a2 = some r) :
  Calls Try.prog 72 #[.int .i64 a0, .int .i64 a1, .int .i64 a2] w fun e w' => e = .returned (.int .u64 r) ∧ Drawn0 w w' := by
 have H : (if 0 ≤ (wrap64 ((wrap64 (3 * (wrap64 ((wrap64 (Int.tdiv (wrap64 (a0 * (wrap64 (a0 + 1)))) 2)) + a1)))) + a2)) then (some (shl .u64 1 (wrap64 ((wrap64 (3 * (wrap64 ((wrap64 (Int.tdiv (wrap64 (a0 * (wrap64 (a0 + 1)))) 2)) + a1)))) + a2)))) else (none)) = some r := h
 clear h
 obtain ⟨ji4, hji4⟩ : ∃ j_ : Int, (wrap64 ((wrap64 (3 * (wrap64 ((wrap64 (Int.tdiv (wrap64 (a0 * (wrap64 (a0 + 1)))) 2)) + a1)))) + a2)) = j_ := ⟨_, rfl⟩
 replace H : (if 0 ≤ (ji4) then (some (shl .u64 1 (ji4))) else (none)) = some r := by first | (rw [hji4] at H; exact H) | (simp only [hji4] at H ⊢; exact H)
 have hji4w : (IntKind.i64.wrap ((wrap64 (3 * (wrap64 ((wrap64 (Int.tdiv (wrap64 (a0 * (wrap64 (a0 + 1)))) 2)) + a1)))) + a2)) = ji4 := (i64_w _).trans hji4
 by_cases c5 : 0 ≤ (ji4)
 ·rw [if_pos c5] at H
  have c5b0 := eq_true c5
  have c5b1 : decide (0 ≤ (ji4)) = true := decide_eq_true c5
  clear c5
  obtain ⟨ji6, hji6⟩ : ∃ j_ : Int, (shl .u64 1 (ji4)) = j_ := ⟨_, rfl⟩
  replace H : (some ji6) = some r := by first | (rw [hji6] at H; exact H) | (simp only [hji6] at H ⊢; exact H)
  have hji6_ : (IntKind.u64.wrap (1 * 2 ^ min (ji4).toNat 64)) = ji6 := hji6
  have hji6z : (ji4) ≤ 64 → (IntKind.u64.wrap (1 * 2 ^ (ji4).toNat)) = ji6 := shl_small hji6
  have hji6u : (IntKind.u64.wrap (2 ^ min (ji4).toNat 64)) = ji6 := by have h_ := hji6_; rw [Int.one_mul] at h_; exact h_
  have hji6v : (ji4) ≤ 64 → (IntKind.u64.wrap (2 ^ (ji4).toNat)) = ji6 := fun hle_ => by have h_ := hji6z hle_; rw [Int.one_mul] at h_; exact h_
  obtain rfl := Option.some.inj H
  go_enter Try.func72, Try.ntmps72
  go_wp2
  go_ret
  exact ⟨by first | rfl | (simp; done) | (simp only [← hji4, ← hji6] <;> (first | rfl | simp)) | (simp [*]; done), by repeat (first | exact Drawn0.refl _ | apply Drawn0.step)⟩
 ·rw [if_neg c5] at H
  exact absurd H (by simp)

/-! ### impl_standing: function 43 -/
mutual
def impl_standing.l0 : Nat → Int → List (S101) → Int → Option ((List (S101)))
 | 0, _, _, _ => none
 | k + 1, x0, x3, x4 => if x4 ≤ x0 then (impl_standing.l1 k x0 x3 x4 0) else (some x3)
def impl_standing.l1 : Nat → Int → List (S101) → Int → Int → Option ((List (S101)))
 | 0, _, _, _, _ => none
 | k + 1, x0, x3, x4, x5 => if (wrap64 (x5 + x4)) ≤ x0 then (impl_standing.l2 k x0 x3 x4 x5 (wrap64 (x5 + 1)) 0) else (impl_standing.l0 k x0 x3 (wrap64 (x4 + 1)))
def impl_standing.l2 : Nat → Int → List (S101) → Int → Int → Int → Int → Option ((List (S101)))
 | 0, _, _, _, _, _, _ => none
 | k + 1, x0, x3, x4, x5, x23, x24 => if x24 < x23 then (impl_standing.l3 k x0 x3 x4 x5 x24 0 x23 x24 x4 0) else (impl_standing.l1 k x0 x3 x4 (wrap64 (x5 + 1)))
def impl_standing.l3 : Nat → Int → List (S101) → Int → Int → Int → Int → Int → Int → Int → Int → Option ((List (S101)))
 | 0, _, _, _, _, _, _, _, _, _, _ => none
 | k + 1, x0, x3, x4, x5, x6, x7, x23, x24, x27, x28 => if x28 < x27 then ((impl_side.f (wrap64 (x5 + x28)) x6 0).bind fun t207 => ((impl_side.f (wrap64 (x5 + x28)) (wrap64 (x6 + x28)) 1).bind fun t208 => ((impl_side.f (wrap64 ((wrap64 (x5 + x4)) - 1)) (wrap64 (x6 + x28)) 2).bind fun t209 => (impl_standing.l3 k x0 x3 x4 x5 x6 (Go.bits .or .u64 x7 (Go.bits .or .u64 (Go.bits .or .u64 t207 t208) t209)) x23 x24 x27 (wrap64 (x28 + 1)))))) else (if x3.length < 4398046511104 then (impl_standing.l2 k x0 (x3 ++ [(⟨(([x5, x6, x4] : List Int)), x7⟩ : S101)]) x4 x5 x23 (wrap64 (x24 + 1))) else (none))
end
def impl_standing.f (k : Nat) (a0 : Int) : Option ((List (S101))) := impl_standing.l0 k a0 (([] : List (S101))) 1
theorem impl_standing.mono_l : ∀ k, (∀ y0 y1 y2, LeO (impl_standing.l0 k y0 y1 y2) (impl_standing.l0 (k + 1) y0 y1 y2)) ∧ (∀ y0 y1 y2 y3, LeO (impl_standing.l1 k y0 y1 y2 y3) (impl_standing.l1 (k + 1) y0 y1 y2 y3)) ∧ (∀ y0 y1 y2 y3 y4 y5, LeO (impl_standing.l2 k y0 y1 y2 y3 y4 y5) (impl_standing.l2 (k + 1) y0 y1 y2 y3 y4 y5)) ∧ (∀ y0 y1 y2 y3 y4 y5 y6 y7 y8 y9, LeO (impl_standing.l3 k y0 y1 y2 y3 y4 y5 y6 y7 y8 y9) (impl_standing.l3 (k + 1) y0 y1 y2 y3 y4 y5 y6 y7 y8 y9))
 | 0 => ⟨fun _ _ _ r h => by simp [impl_standing.l0] at h, fun _ _ _ _ r h => by simp [impl_standing.l1] at h, fun _ _ _ _ _ _ r h => by simp [impl_standing.l2] at h, fun _ _ _ _ _ _ _ _ _ _ r h => by simp [impl_standing.l3] at h⟩
 | k + 1 => by
  obtain ⟨ih0, ih1, ih2, ih3⟩ := impl_standing.mono_l k
  refine ⟨?_, ?_, ?_, ?_⟩
  ·intro y0 y1 y2
   unfold impl_standing.l0
   repeat' first
   | (with_reducible exact ih0 _ _ _)
   | (with_reducible exact ih1 _ _ _ _)
   | (with_reducible exact ih2 _ _ _ _ _ _)
   | (with_reducible exact ih3 _ _ _ _ _ _ _ _ _ _)
   | (with_reducible exact LeO.refl _)
   | (with_reducible exact LeO.none _)
   | (with_reducible refine LeO.ite ?_ ?_)
   | (with_reducible refine LeO.bind ?_ (fun _ => ?_))
   | exact ih0 _ _ _
   | exact ih1 _ _ _ _
   | exact ih2 _ _ _ _ _ _
   | exact ih3 _ _ _ _ _ _ _ _ _ _
   | exact LeO.none _
   | refine LeO.ite ?_ ?_
   | refine LeO.bind ?_ (fun _ => ?_)
  ·intro y0 y1 y2 y3
   unfold impl_standing.l1
   repeat' first
   | (with_reducible exact ih0 _ _ _)
   | (with_reducible exact ih1 _ _ _ _)
   | (with_reducible exact ih2 _ _ _ _ _ _)
   | (with_reducible exact ih3 _ _ _ _ _ _ _ _ _ _)
   | (with_reducible exact LeO.refl _)
   | (with_reducible exact LeO.none _)
   | (with_reducible refine LeO.ite ?_ ?_)
   | (with_reducible refine LeO.bind ?_ (fun _ => ?_))
   | exact ih0 _ _ _
   | exact ih1 _ _ _ _
   | exact ih2 _ _ _ _ _ _
   | exact ih3 _ _ _ _ _ _ _ _ _ _
   | exact LeO.none _
   | refine LeO.ite ?_ ?_
   | refine LeO.bind ?_ (fun _ => ?_)
  ·intro y0 y1 y2 y3 y4 y5
   unfold impl_standing.l2
   repeat' first
   | (with_reducible exact ih0 _ _ _)
   | (with_reducible exact ih1 _ _ _ _)
   | (with_reducible exact ih2 _ _ _ _ _ _)
   | (with_reducible exact ih3 _ _ _ _ _ _ _ _ _ _)
   | (with_reducible exact LeO.refl _)
   | (with_reducible exact LeO.none _)
   | (with_reducible refine LeO.ite ?_ ?_)
   | (with_reducible refine LeO.bind ?_ (fun _ => ?_))
   | exact ih0 _ _ _
   | exact ih1 _ _ _ _
   | exact ih2 _ _ _ _ _ _
   | exact ih3 _ _ _ _ _ _ _ _ _ _
   | exact LeO.none _
   | refine LeO.ite ?_ ?_
   | refine LeO.bind ?_ (fun _ => ?_)
  ·intro y0 y1 y2 y3 y4 y5 y6 y7 y8 y9
   unfold impl_standing.l3
   repeat' first
   | (with_reducible exact ih0 _ _ _)
   | (with_reducible exact ih1 _ _ _ _)
   | (with_reducible exact ih2 _ _ _ _ _ _)
   | (with_reducible exact ih3 _ _ _ _ _ _ _ _ _ _)
   | (with_reducible exact LeO.refl _)
   | (with_reducible exact LeO.none _)
   | (with_reducible refine LeO.ite ?_ ?_)
   | (with_reducible refine LeO.bind ?_ (fun _ => ?_))
   | exact ih0 _ _ _
   | exact ih1 _ _ _ _
   | exact ih2 _ _ _ _ _ _
   | exact ih3 _ _ _ _ _ _ _ _ _ _
   | exact LeO.none _
   | refine LeO.ite ?_ ?_
   | refine LeO.bind ?_ (fun _ => ?_)
theorem impl_standing.mono : ∀ a0 k, LeO (impl_standing.f k a0) (impl_standing.f (k + 1) a0) := by
 intro a0 k
 obtain ⟨ih0, ih1, ih2, ih3⟩ := impl_standing.mono_l k
 unfold impl_standing.f
 repeat' first
   | (with_reducible exact ih0 _ _ _)
   | (with_reducible exact ih1 _ _ _ _)
   | (with_reducible exact ih2 _ _ _ _ _ _)
   | (with_reducible exact ih3 _ _ _ _ _ _ _ _ _ _)
   | (with_reducible exact LeO.refl _)
   | (with_reducible exact LeO.none _)
   | (with_reducible refine LeO.ite ?_ ?_)
   | (with_reducible refine LeO.bind ?_ (fun _ => ?_))
   | exact ih0 _ _ _
   | exact ih1 _ _ _ _
   | exact ih2 _ _ _ _ _ _
   | exact ih3 _ _ _ _ _ _ _ _ _ _
   | exact LeO.none _
   | refine LeO.ite ?_ ?_
   | refine LeO.bind ?_ (fun _ => ?_)
set_option maxHeartbeats 8000000 in
set_option maxRecDepth 100000 in
theorem impl_standing.calls (k : Nat) (a0 : Int) (r : List (S101)) (w : World) (h : impl_standing.f k a0 = some r) :
  Calls Try.prog 43 #[.int .i64 a0] w fun e w' => ∃ v0_ : Value, e = .returned (v0_) ∧ Kd.S k101 101 w' w.heap.size (fun _ => True) v0_ r ∧ Below w.heap.size w w' := by
 have hu101 := Try.underlying101
 have HB := Aside0.mk (Below.refl w.heap.size w)
 have H : (impl_standing.l0 k a0 (([] : List (S101))) 1) = some r := h
 clear h
 obtain ⟨y204, hy204⟩ : ∃ y_ : List (S101), y_ = (([] : List (S101))) := ⟨_, rfl⟩
 replace H : (impl_standing.l0 k a0 y204 1) = some r := by first | (rw [hy204]; with_reducible exact H) | (have H2_ := (Option.bind_some _ _).symm.trans H; rw [hy204]; with_reducible exact H2_) | (have H2_ := (Option.bind_some _ _).symm.trans H; with_reducible exact H2_) | with_reducible exact H | (rw [hy204]; exact H) | exact H
 have Ny204 := Aside0.mk hy204
 clear hy204
 have H' := Aside0.mk H
 clear H
 go_enter Try.func43, Try.ntmps43
 go_wp2_with (first | ((with_reducible refine gate_dst (N := 9) rfl ?_); refine Kd.S_lit k101 _ 101 ?hg (N := 9) ?hd (xs := ([] : List (S101))) (inner := []) (ok := fun _ => True) (okp := fun _ => True) ?hr ?hp (fun _ hk => hk) trivial (Below.refl _ _) (Nat.le_refl _) (by simp) ?_; (case hd => rfl); (case hg => rfl); (case hr => first | (go_simp; done) | (go_simp; rfl)); (case hp => exact (Reps.none _ _)); intro v205 w2 ho3 hb hg_ hnew_; clear hg_ hnew_; (first | rw [← Ny204.out] at ho3 | (simp only [Int.reduceToNat] at ho3; rw [← Ny204.out] at ho3)); have n0_ := Aside0.mk (Kd.S_lower ho3 (below_size (by repeat (first | (with_reducible first | exact HB.out | apply below_alloc | apply pw_below_drewN | apply below_drew1) | exact HB.out)))); have n1_ := Aside0.mk (below_step (by repeat (first | (with_reducible first | exact HB.out | apply below_alloc | apply pw_below_drewN | apply below_drew1) | exact HB.out)) hb); clear HB; have HO206 := n0_; have HB := n1_; clear n0_ n1_; clear hb ho3))
 go_loopg [3, 4] k (fun kq v3 v4 w' => ∃ (x3_1 : List (S101)) (x4_1 : Int), v4 = .int .i64 x4_1 ∧ Aside0 (impl_standing.l0 kq a0 x3_1 x4_1 = some r) ∧ Aside0 (kq ≤ k) ∧ Aside0 (Kd.S k101 101 w' w.heap.size (fun _ => True) v3 x3_1) ∧ Aside0 (Below w.heap.size w w'))
 case atStart => exact ⟨(y204), (1), (by first | rfl | (simp; done) | (simp [*]; done)), H', ⟨Nat.le_refl _⟩, ⟨by (with_reducible repeat (first | apply Kd.S_alloc | apply Kd.S_drewN | apply Kd.S_drew)); exact HO206.out⟩, ⟨by repeat (first | (with_reducible first | exact HB.out | apply below_alloc | apply pw_below_drewN | apply below_drew1) | exact HB.out)⟩⟩
 case round =>
  clear H'
  try clear p2
  obtain ⟨x3_1, x4_1, rfl, HA, HK1, HO_3, HB⟩ := hrel
  cases gk with
  | zero => exact absurd HA.out (by simp [impl_standing.l0])
  | succ k1 =>
   have H := HA.out
   clear HA
   simp only [impl_standing.l0] at H
   by_cases c4 : x4_1 ≤ a0
   ·rw [if_pos c4] at H
    have c4b0 : decide (x4_1 ≤ a0) = true := decide_eq_true c4
    clear c4
    have H' := Aside0.mk H
    clear H
    go_wp2
    go_loopg [3, 5] k1 (fun kq v3 v5 w' => ∃ (x3_2 : List (S101)) (x5_2 : Int), v5 = .int .i64 x5_2 ∧ Aside0 (impl_standing.l1 kq a0 x3_2 x4_1 x5_2 = some r) ∧ Aside0 (kq ≤ k1) ∧ Aside0 (Kd.S k101 101 w' w.heap.size (fun _ => True) v3 x3_2) ∧ Aside0 (Below w.heap.size w w'))
    case atStart => exact ⟨(x3_1), (0), (by first | rfl | (simp; done) | (simp [*]; done)), H', ⟨Nat.le_refl _⟩, ⟨by (with_reducible repeat (first | apply Kd.S_alloc | apply Kd.S_drewN | apply Kd.S_drew)); exact HO_3.out⟩, ⟨by repeat (first | (with_reducible first | exact HB.out | apply below_alloc | apply pw_below_drewN | apply below_drew1) | exact HB.out)⟩⟩
    case round =>
     clear H'
     try clear p2
     try clear c4
     try clear c4b0
     try clear p2
     obtain ⟨x3_2, x5_2, rfl, HA, HK2, HO_3, HB⟩ := hrel
     cases gk with
     | zero => exact absurd HA.out (by simp [impl_standing.l1])
     | succ k2 =>
      have H := HA.out
      clear HA
      simp only [impl_standing.l1] at H
      by_cases c5 : (wrap64 (x5_2 + x4_1)) ≤ a0
      ·rw [if_pos c5] at H
       have c5b0 : decide ((wrap64 (x5_2 + x4_1)) ≤ a0) = true := decide_eq_true c5
       clear c5
       have H' := Aside0.mk H
       clear H
       go_wp2
       go_loopg [3, 24] k2 (fun kq v3 v24 w' => ∃ (x3_3 : List (S101)) (x24_3 : Int), v24 = .int .i64 x24_3 ∧ Aside0 (impl_standing.l2 kq a0 x3_3 x4_1 x5_2 (wrap64 (x5_2 + 1)) x24_3 = some r) ∧ Aside0 (kq ≤ k2) ∧ Aside0 (Kd.S k101 101 w' w.heap.size (fun _ => True) v3 x3_3) ∧ Aside0 (Below w.heap.size w w'))
       case atStart => exact ⟨(x3_2), (0), (by first | rfl | (simp; done) | (simp [*]; done)), H', ⟨Nat.le_refl _⟩, ⟨by (with_reducible repeat (first | apply Kd.S_alloc | apply Kd.S_drewN | apply Kd.S_drew)); exact HO_3.out⟩, ⟨by repeat (first | (with_reducible first | exact HB.out | apply below_alloc | apply pw_below_drewN | apply below_drew1) | exact HB.out)⟩⟩
       case round =>
        clear H'
        try clear p2
        try clear c4
        try clear c4b0
        try clear c5
        try clear c5b0
        try clear p2
        obtain ⟨x3_3, x24_3, rfl, HA, HK3, HO_3, HB⟩ := hrel
        cases gk with
        | zero => exact absurd HA.out (by simp [impl_standing.l2])
        | succ k3 =>
         have H := HA.out
         clear HA
         simp only [impl_standing.l2] at H
         by_cases c6 : x24_3 < (wrap64 (x5_2 + 1))
         ·rw [if_pos c6] at H
          have c6b0 : decide (x24_3 < (wrap64 (x5_2 + 1))) = true := decide_eq_true c6
          clear c6
          have H' := Aside0.mk H
          clear H
          go_wp2
          go_loopg [7, 28] k3 (fun kq v7 v28 w' => ∃ (x7_4 : Int) (x28_4 : Int), v7 = .int .u64 x7_4 ∧ v28 = .int .i64 x28_4 ∧ Aside0 (impl_standing.l3 kq a0 x3_3 x4_1 x5_2 x24_3 x7_4 (wrap64 (x5_2 + 1)) x24_3 x4_1 x28_4 = some r) ∧ Aside0 (kq ≤ k3) ∧ Aside0 (Kd.S k101 101 w' w.heap.size (fun _ => True) u3 x3_3) ∧ Aside0 (Below w.heap.size w w'))
          case atStart => exact ⟨(0), (0), (by first | rfl | (simp; done) | (simp [*]; done)), (by first | rfl | (simp; done) | (simp [*]; done)), H', ⟨Nat.le_refl _⟩, ⟨by (with_reducible repeat (first | apply Kd.S_alloc | apply Kd.S_drewN | apply Kd.S_drew)); exact HO_3.out⟩, ⟨by repeat (first | (with_reducible first | exact HB.out | apply below_alloc | apply pw_below_drewN | apply below_drew1) | exact HB.out)⟩⟩
          case round =>
           clear H'
           try clear p2
           try clear c4
           try clear c4b0
           try clear c5
           try clear c5b0
           try clear c6
           try clear c6b0
           try clear p6
           try clear p2
           obtain ⟨x7_4, x28_4, rfl, rfl, HA, HK4, HO_3, HB⟩ := hrel
           cases gk with
           | zero => exact absurd HA.out (by simp [impl_standing.l3])
           | succ k4 =>
            have H := HA.out
            clear HA
            simp only [impl_standing.l3] at H
            by_cases c7 : x28_4 < x4_1
            ·rw [if_pos c7] at H
             have c7b0 : decide (x28_4 < x4_1) = true := decide_eq_true c7
             clear c7
             replace H := Option.bind_eq_some_iff.mp H
             obtain ⟨t207, A80, H⟩ := H
             replace H : ((impl_side.f (wrap64 (x5_2 + x28_4)) (wrap64 (x24_3 + x28_4)) 1).bind fun t208 => ((impl_side.f (wrap64 ((wrap64 (x5_2 + x4_1)) - 1)) (wrap64 (x24_3 + x28_4)) 2).bind fun t209 => (impl_standing.l3 k4 a0 x3_3 x4_1 x5_2 x24_3 (Go.bits .or .u64 x7_4 (Go.bits .or .u64 (Go.bits .or .u64 t207 t208) t209)) (wrap64 (x5_2 + 1)) x24_3 x4_1 (wrap64 (x28_4 + 1))))) = some r := H
             have A8 := Aside0.mk A80
             clear A80
             replace H := Option.bind_eq_some_iff.mp H
             obtain ⟨t208, A90, H⟩ := H
             replace H : ((impl_side.f (wrap64 ((wrap64 (x5_2 + x4_1)) - 1)) (wrap64 (x24_3 + x28_4)) 2).bind fun t209 => (impl_standing.l3 k4 a0 x3_3 x4_1 x5_2 x24_3 (Go.bits .or .u64 x7_4 (Go.bits .or .u64 (Go.bits .or .u64 t207 t208) t209)) (wrap64 (x5_2 + 1)) x24_3 x4_1 (wrap64 (x28_4 + 1)))) = some r := H
             have A9 := Aside0.mk A90
             clear A90
             replace H := Option.bind_eq_some_iff.mp H
             obtain ⟨t209, A100, H⟩ := H
             replace H : (impl_standing.l3 k4 a0 x3_3 x4_1 x5_2 x24_3 (Go.bits .or .u64 x7_4 (Go.bits .or .u64 (Go.bits .or .u64 t207 t208) t209)) (wrap64 (x5_2 + 1)) x24_3 x4_1 (wrap64 (x28_4 + 1))) = some r := H
             have A10 := Aside0.mk A100
             clear A100
             have H' := Aside0.mk H
             clear H
             go_wp2_with (first | ((with_reducible refine gate_callee (f := 72) rfl ?_); refine goesL_ (some 36) rfl rfl Try.func72 (by kernel_rfl) rfl #[.int .i64 (wrap64 (x5_2 + x28_4)), .int .i64 x24_3, .int .i64 0] rfl (by (try simp only [List.map_toArray, List.map_cons, List.map_nil]); first | done | rfl | (simp only [List.length_drop, List.length_take]; rfl)) ?_; (with_reducible refine (impl_side.calls (wrap64 (x5_2 + x28_4)) x24_3 0 t207 _ A8.out).mono ?_); rintro e w' ⟨rfl, ⟨nd, rfl⟩⟩; refine ⟨_, rfl, ?_⟩) | ((with_reducible refine gate_callee (f := 72) rfl ?_); refine goesL_ (some 43) rfl rfl Try.func72 (by kernel_rfl) rfl #[.int .i64 (wrap64 (x5_2 + x28_4)), .int .i64 (wrap64 (x24_3 + x28_4)), .int .i64 1] rfl (by (try simp only [List.map_toArray, List.map_cons, List.map_nil]); first | done | rfl | (simp only [List.length_drop, List.length_take]; rfl)) ?_; (with_reducible refine (impl_side.calls (wrap64 (x5_2 + x28_4)) (wrap64 (x24_3 + x28_4)) 1 t208 _ A9.out).mono ?_); rintro e w' ⟨rfl, ⟨nd, rfl⟩⟩; refine ⟨_, rfl, ?_⟩) | ((with_reducible refine gate_callee (f := 72) rfl ?_); refine goesL_ (some 52) rfl rfl Try.func72 (by kernel_rfl) rfl #[.int .i64 (wrap64 ((wrap64 (x5_2 + x4_1)) - 1)), .int .i64 (wrap64 (x24_3 + x28_4)), .int .i64 2] rfl (by (try simp only [List.map_toArray, List.map_cons, List.map_nil]); first | done | rfl | (simp only [List.length_drop, List.length_take]; rfl)) ?_; (with_reducible refine (impl_side.calls (wrap64 ((wrap64 (x5_2 + x4_1)) - 1)) (wrap64 (x24_3 + x28_4)) 2 t209 _ A10.out).mono ?_); rintro e w' ⟨rfl, ⟨nd, rfl⟩⟩; refine ⟨_, rfl, ?_⟩))
             go_roundg k4
             case measure => have := HK1.out; have := HK2.out; have := HK3.out; have := HK4.out; omega
             case rel => exact ⟨(Go.bits .or .u64 x7_4 (Go.bits .or .u64 (Go.bits .or .u64 t207 t208) t209)), (wrap64 (x28_4 + 1)), (by first | rfl | (simp; done) | (simp [*]; done)), (by first | rfl | (simp; done) | (simp [*]; done)), H', ⟨by have := HK1.out; have := HK2.out; have := HK3.out; have := HK4.out; omega⟩, ⟨by (with_reducible repeat (first | apply Kd.S_alloc | apply Kd.S_drewN | apply Kd.S_drew)); exact HO_3.out⟩, ⟨by repeat (first | (with_reducible first | exact HB.out | apply below_alloc | apply pw_below_drewN | apply below_drew1) | exact HB.out)⟩⟩
            ·rw [if_neg c7] at H
             have c7b0 : decide (x28_4 < x4_1) = false := decide_eq_false c7
             clear c7
             obtain ⟨y210, hy210⟩ : ∃ y_ : List Int, y_ = (([x5_2, x24_3, x4_1] : List Int)) := ⟨_, rfl⟩
             replace H : (if x3_3.length < 4398046511104 then (impl_standing.l2 k4 a0 (x3_3 ++ [(⟨y210, x7_4⟩ : S101)]) x4_1 x5_2 (wrap64 (x5_2 + 1)) (wrap64 (x24_3 + 1))) else (none)) = some r := by first | (rw [hy210]; with_reducible exact H) | (have H2_ := (Option.bind_some _ _).symm.trans H; rw [hy210]; with_reducible exact H2_) | (have H2_ := (Option.bind_some _ _).symm.trans H; with_reducible exact H2_) | with_reducible exact H | (rw [hy210]; exact H) | exact H
             have Ny210 := Aside0.mk hy210
             clear hy210
             by_cases c11 : x3_3.length < 4398046511104
             ·rw [if_pos c11] at H
              have LMc11 := Aside0.mk c11
              clear c11
              obtain ⟨y213, hy213⟩ : ∃ y_ : List (S101), y_ = (x3_3 ++ [(⟨y210, x7_4⟩ : S101)]) := ⟨_, rfl⟩
              replace H : (impl_standing.l2 k4 a0 y213 x4_1 x5_2 (wrap64 (x5_2 + 1)) (wrap64 (x24_3 + 1))) = some r := by first | (rw [hy213]; with_reducible exact H) | (have H2_ := (Option.bind_some _ _).symm.trans H; rw [hy213]; with_reducible exact H2_) | (have H2_ := (Option.bind_some _ _).symm.trans H; with_reducible exact H2_) | with_reducible exact H | (rw [hy213]; exact H) | exact H
              have Ny213 := Aside0.mk hy213
              clear hy213
              have H' := Aside0.mk H
              clear H
              go_wp2_with (first | ((with_reducible refine gate_dst (N := 60) rfl ?_); refine Kd.R_lit (Kd.int .i64) _ 3 ?hg (N := 60) ?hd (xs := ([x5_2, x24_3, x4_1] : List Int)) (inner := [.int .i64 x5_2, .int .i64 x24_3, .int .i64 x4_1]) (ok := fun _ => True) (okp := fun _ => True) ?hr ?hp (fun _ hk => hk) trivial (Below.refl _ _) (Nat.le_refl _) (by simp) ?_; (case hd => rfl); (case hg => rfl); (case hr => first | (go_simp; done) | (go_simp; rfl)); (case hp => exact (Reps.one (show Kd.M (Kd.int .i64) _ _ _ x5_2 [.int .i64 x5_2] from rfl) (Reps.one (show Kd.M (Kd.int .i64) _ _ _ x24_3 [.int .i64 x24_3] from rfl) (Reps.one (show Kd.M (Kd.int .i64) _ _ _ x4_1 [.int .i64 x4_1] from rfl) (Reps.none _ _))))); intro v211 w12 ho13 hb hg_ hnew_; clear hg_ hnew_; (first | rw [← Ny210.out] at ho13 | (simp only [Int.reduceToNat] at ho13; rw [← Ny210.out] at ho13)); have n0_ := Aside0.mk (Kd.S_elder' (by (with_reducible repeat (first | apply Kd.S_alloc | apply Kd.S_drewN | apply Kd.S_drew)); exact HO_3.out) (Kd.R_base ho13) hb); have n1_ := Aside0.mk (Kd.R_lower ho13 (below_size (by repeat (first | (with_reducible first | exact HB.out | apply below_alloc | apply pw_below_drewN | apply below_drew1) | exact HB.out)))); have n2_ := Aside0.mk (below_step (by repeat (first | (with_reducible first | exact HB.out | apply below_alloc | apply pw_below_drewN | apply below_drew1) | exact HB.out)) hb); clear HO_3; clear HB; have HO_3 := n0_; have HO212 := n1_; have HB := n2_; clear n0_ n1_ n2_; clear hb ho13; obtain ⟨Ao14, co14, eo14⟩ := Kd.R_slice HO212.out; subst eo14) | ((with_reducible refine gate_builtin (b := .append) (xs := #[.tmp 56, .tmp 63]) rfl ?_); at_builtin; refine Kd.S_append k101 (w0 := w) w.heap.size rfl (.tmp 56) (.tmp 63) 63 101 (.agg #[(.slice none 0 0), (.int .u64 0)]) 32 rfl Try.underlying63 info101 rfl (by decide) (by omega) u3 x3_3 (⟨y210, x7_4⟩ : S101) [.slice Ao14 y210.length co14, .int .u64 x7_4] (fun _ => True) (fun k_ => some k_ = (.slice Ao14 y210.length co14 : Value).ownBlock) rfl rfl ?aP (fun k_ hk_ => ((Kd.R_mono (ok' := fun k_ => ((fun _ => True)) k_ ∧ some k_ ≠ (u3 : Value).ownBlock) (Kd.R_apart' (HO212.out) (Kd.S_typed HO_3.out) (by decide)) (fun k_ hk => ⟨trivial, hk.2⟩))).1 k_ hk_.symm) ?aF ?aO ?aB ?aS ?aL ?_; (case aP => exact k101_mkM _ _ _ (⟨y210, x7_4⟩ : S101) (Kd.R_mono (Kd.R_tight rfl (Kd.R_mono (ok' := fun k_ => ((fun _ => True)) k_ ∧ some k_ ≠ (u3 : Value).ownBlock) (Kd.R_apart' (HO212.out) (Kd.S_typed HO_3.out) (by decide)) (fun k_ hk => ⟨trivial, hk.2⟩))) (fun _ h_ => h_))); (case aB => exact (by repeat (first | (with_reducible first | exact HB.out | apply below_alloc | apply pw_below_drewN | apply below_drew1) | exact HB.out))); (case aF => exact (fun _ _ => trivial)); (case aO => exact (by (with_reducible repeat (first | apply Kd.S_alloc | apply Kd.S_drewN | apply Kd.S_drew)); exact Kd.S_mono HO_3.out (fun k_ hk => ⟨trivial, fun e_ => hk.2 e_⟩))); (case aS => exact (below_size (by repeat (first | (with_reducible first | exact HB.out | apply below_alloc | apply pw_below_drewN | apply below_drew1) | exact HB.out)))); (case aL => have := LMc11.out; omega); intro v214 w15 ho hb hg hat; rw [← Ny213.out] at ho; have n0_ := Aside0.mk (hb); have n1_ := Aside0.mk (ho); clear HB; clear HO_3; clear HO212; have HB := n0_; have HO215 := n1_; clear n0_ n1_; clear ho hb hg hat))
              go_roundg k4
              case measure => have := HK1.out; have := HK2.out; have := HK3.out; have := HK4.out; omega
              case rel => exact ⟨(y213), (wrap64 (x24_3 + 1)), (by first | rfl | (simp; done) | (simp [*]; done)), H', ⟨by have := HK1.out; have := HK2.out; have := HK3.out; have := HK4.out; omega⟩, ⟨by (with_reducible repeat (first | apply Kd.S_alloc | apply Kd.S_drewN | apply Kd.S_drew)); exact HO215.out⟩, ⟨by repeat (first | (with_reducible first | exact HB.out | apply below_alloc | apply pw_below_drewN | apply below_drew1) | exact HB.out)⟩⟩
             ·rw [if_neg c11] at H
              exact absurd H (by simp)
         ·rw [if_neg c6] at H
          have c6b0 : decide (x24_3 < (wrap64 (x5_2 + 1))) = false := decide_eq_false c6
          clear c6
          have H' := Aside0.mk H
          clear H
          go_wp2
          go_roundg k3
          case measure => have := HK1.out; have := HK2.out; have := HK3.out; omega
          case rel => exact ⟨(x3_3), (wrap64 (x5_2 + 1)), (by first | rfl | (simp; done) | (simp [*]; done)), H', ⟨by have := HK1.out; have := HK2.out; have := HK3.out; omega⟩, ⟨by (with_reducible repeat (first | apply Kd.S_alloc | apply Kd.S_drewN | apply Kd.S_drew)); exact HO_3.out⟩, ⟨by repeat (first | (with_reducible first | exact HB.out | apply below_alloc | apply pw_below_drewN | apply below_drew1) | exact HB.out)⟩⟩
      ·rw [if_neg c5] at H
       have c5b0 : decide ((wrap64 (x5_2 + x4_1)) ≤ a0) = false := decide_eq_false c5
       clear c5
       have H' := Aside0.mk H
       clear H
       go_wp2
       go_roundg k2
       case measure => have := HK1.out; have := HK2.out; omega
       case rel => exact ⟨(x3_2), (wrap64 (x4_1 + 1)), (by first | rfl | (simp; done) | (simp [*]; done)), H', ⟨by have := HK1.out; have := HK2.out; omega⟩, ⟨by (with_reducible repeat (first | apply Kd.S_alloc | apply Kd.S_drewN | apply Kd.S_drew)); exact HO_3.out⟩, ⟨by repeat (first | (with_reducible first | exact HB.out | apply below_alloc | apply pw_below_drewN | apply below_drew1) | exact HB.out)⟩⟩
   ·rw [if_neg c4] at H
    have c4b0 : decide (x4_1 ≤ a0) = false := decide_eq_false c4
    clear c4
    obtain rfl := Option.some.inj H
    go_wp2
    go_ret
    exact ⟨_, by first | rfl | (simp [errW_none, errW_some] <;> rfl) | (simp [*, errW_none, errW_some] <;> rfl), by (with_reducible repeat (first | apply Kd.S_alloc | apply Kd.S_drewN | apply Kd.S_drew)); exact HO_3.out, by repeat (first | (with_reducible first | exact HB.out | apply below_alloc | apply pw_below_drewN | apply below_drew1) | exact HB.out)⟩

/-! ### impl_StandingOf: function 20 -/
def impl_StandingOf.f (k : Nat) (a0_0 : Int) (l0_1 : List Int) : Option ((List (List Int)) × Bool) := (impl_IsTri.f k a0_0 l0_1).bind fun t217 => (if t217 = true then ((impl_standing.f k a0_0).bind fun t218 => ((impl_there.f k a0_0 l0_1 t218).bind fun bt221 => (some (bt221.1, bt221.2)))) else (some (([] : List (List Int)), false)))
theorem impl_StandingOf.mono : ∀ a0 a1 k, LeO (impl_StandingOf.f k a0 a1) (impl_StandingOf.f (k + 1) a0 a1) := by
 intro a0 a1 k
 unfold impl_StandingOf.f
 repeat' first
   | (with_reducible exact impl_IsTri.mono _ _ _)
   | (with_reducible exact impl_standing.mono _ _)
   | (with_reducible exact impl_there.mono _ _ _ _)
   | (with_reducible exact LeO.refl _)
   | (with_reducible exact LeO.none _)
   | (with_reducible refine LeO.ite ?_ ?_)
   | (with_reducible refine LeO.bind ?_ (fun _ => ?_))
   | exact impl_IsTri.mono _ _ _
   | exact impl_standing.mono _ _
   | exact impl_there.mono _ _ _ _
   | exact LeO.none _
   | refine LeO.ite ?_ ?_
   | refine LeO.bind ?_ (fun _ => ?_)
theorem impl_StandingOf.small {w : World} {base n c : Nat} {ok : Nat → Prop} {A : Option Addr} {l : List S101} (h : Kd.S k101 101 w base ok (.slice A n c) l) : l.length ≤ 9223372036854775807 := by
 obtain ⟨inner, ho⟩ := Kd.S_own h
 rcases ho.2 with ⟨_, h0⟩ | ⟨g, cap, cur, _, _, _, h1, h2, _⟩
 ·omega
 ·unfold maxLen at h2
  omega
theorem impl_StandingOf.keep {W wc w1 : World} {p0 p1 : Addr} {v0 v1 : Value} (h : Below W.heap.size W wc ∧ wc.cell? p0 = some v0 ∧ wc.cell? p1 = some v1) (hb : Below wc.heap.size wc w1) : Below W.heap.size W w1 ∧ w1.cell? p0 = some v0 ∧ w1.cell? p1 = some v1 := ⟨h.1.trans (hb.mono h.1.size), cell_keepT h.2.1 hb, cell_keepT h.2.2 hb⟩
set_option maxHeartbeats 8000000 in
set_option maxRecDepth 100000 in
/-- The rows that are handed back lie apart. -/
theorem impl_StandingOf.calls (k : Nat) (a0_0 : Int) (A0_1 : Option Addr) (c0_1 : Nat) (l0_1 : List Int) (r1 : List (List Int)) (r2 : Bool) (w : World) (hr0_1 : Kd.C (Kd.int .i64) w A0_1 l0_1.length l0_1) (hc0_1 : l0_1.length ≤ c0_1) (h : impl_StandingOf.f k a0_0 l0_1 = some (r1, r2)) :
  Calls Try.prog 20 #[.agg #[.int .i64 a0_0, .slice A0_1 l0_1.length c0_1]] w fun e w' => ∃ v0_ : Value, e = .returned (.tuple #[v0_, .bool r2]) ∧ Kd.S (Kd.slice 3 (Kd.int .i64)) 22 w' w.heap.size (fun _ => True) v0_ r1 ∧ Below w.heap.size w w' := by
 have HR0 := Aside0.mk hr0_1
 have HC0 := Aside0.mk hc0_1
 unfold impl_StandingOf.f at h
 obtain ⟨b, hT, h⟩ := Option.bind_eq_some_iff.mp h
 have HT := Aside0.mk hT
 have BT0 := Aside0.mk (blk_new w (.cells #[.int .i64 a0_0, .slice A0_1 l0_1.length c0_1] 28))
 have HB0 := Aside0.mk (below_alloc (Below.refl w.heap.size w) (.cells #[.int .i64 a0_0, .slice A0_1 l0_1.length c0_1] 28))
 clear hr0_1 hc0_1 hT
 cases b with
 | false =>
  rw [if_neg (by simp)] at h
  obtain ⟨rfl, rfl⟩ := Prod.mk.inj (Option.some.inj h)
  clear h
  go_enter Try.func20, Try.ntmps20
  go_wp2_with (go_at_call 33; with_reducible refine (impl_IsTri.calls k a0_0 _ _ l0_1 false _ (Kd.C_below HR0.out HB0.out) HC0.out HT.out).mono ?_; rintro e w1 ⟨rfl, hb⟩)
  go_ret2
  exact ⟨_, rfl, Kd.S_nil _ _ _ _ _, HB0.out.trans (hb.mono HB0.out.size)⟩
 | true =>
  rw [if_pos rfl] at h
  obtain ⟨L, hL, h⟩ := Option.bind_eq_some_iff.mp h
  obtain ⟨⟨t1, t2⟩, hH, h⟩ := Option.bind_eq_some_iff.mp h
  obtain ⟨rfl, rfl⟩ := Prod.mk.inj (Option.some.inj h)
  have HL := Aside0.mk hL
  have HH := Aside0.mk hH
  clear h hL hH
  go_enter Try.func20, Try.ntmps20
  go_upto_region 3 with (go_at_call 33; with_reducible refine (impl_IsTri.calls k a0_0 _ _ l0_1 true _ (Kd.C_below HR0.out HB0.out) HC0.out HT.out).mono ?_; rintro e w1 ⟨rfl, hb⟩)
  have BT := Aside0.mk (blk_below BT0.out hb)
  have HB := Aside0.mk (HB0.out.trans (hb.mono HB0.out.size))
  have hz0 := (blk_cell BT.out 0).trans rfl
  have hz1 := (blk_cell BT.out 1).trans rfl
  clear BT0 HB0 hb BT
  go_region_held3 (fun w' => Below w1.heap.size w1 w' ∧ w'.cell? ⟨w.heap.size, 0, none⟩ = some (.int .i64 a0_0) ∧ w'.cell? ⟨w.heap.size, 1, none⟩ = some (.slice A0_1 l0_1.length c0_1))
   (first | exact ⟨below_drew (Below.refl _ _), hz0, hz1⟩ | exact impl_StandingOf.keep (by assumption) hb5 | exact impl_StandingOf.keep (by assumption) hb3)
   (first
    | (go_at_call 43; with_reducible refine (impl_standing.calls k a0_0 L _ HL.out).mono ?_; rintro e w3 ⟨v3, rfl, hS3, hb3⟩; obtain ⟨A3, c3, rfl⟩ := Kd.S_slice hS3; have HS3 := Aside0.mk hS3; have HB3 := Aside0.mk (And.left (by assumption : Below w1.heap.size w1 _ ∧ _)); clear hS3)
    | (go_at_call 38; with_reducible refine (impl_there.calls k a0_0 _ _ l0_1 A3 c3 L t1 t2 _ (Kd.C_below HR0.out (HB.out.trans ((And.left (by assumption : Below w1.heap.size w1 w3 ∧ _)).mono HB.out.size))) HC0.out (Kd.S_reads' HS3.out).2.2 (impl_StandingOf.small HS3.out) HH.out).mono ?_; rintro e w5 ⟨v5, sel, rfl, hr5, hp5, hi5, hR5, hb5⟩; have HR5 := Aside0.mk (S_of_told HS3.out hb5 hb3.size hR5 hp5 hi5); have HE5 := Aside0.mk hr5; clear hR5 hp5 hi5 hr5))
  all_goals
   have hBz := And.left (by assumption : Below w1.heap.size w1 _ ∧ _)
   obtain rfl := HE5.out
   go_wp2
   go_ret2
   exact ⟨_, rfl, Kd.S_lower HR5.out HB.out.size, HB.out.trans (hBz.mono HB.out.size)⟩

end Go.Proofs.Ytjkkgnpgjgfidaa.Q
