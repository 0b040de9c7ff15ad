-- written by a program of this session, pm.py, for this claim
-- half the indentation
import Derived.Test.YtmjlmmfhcabnfaaGreatDoorQFnExactFalseByMovex0
import Derived.Test.YtmjlmmfhcabnfaaGreatDoorQFnExactFalseByMovex2
import Derived.Test.YtmjlmmfhcabnfaaGreatDoorQFnExactFalseByMovex4
namespace Go.Proofs.YtmjlmmfhcabnfaaGreatDoor.Q
open Go.RowKit Go.Proofs.YtmjlmmfhcabnfaaGreatDoorW.PrintWords Go.Proofs.YtmjlmmfhcabnfaaGreatDoorW.PrintLast Go.Proofs.YtmjlmmfhcabnfaaGreatDoorW.PrintMore
attribute [local go_sem] max2_int min2_int max_two min_two max_three min_three max_four min_four   -- for this text's walks alone
set_option linter.unusedVariables false
set_option linter.unusedSimpArgs false

/-! ### spec_nuThose: function 18 -/
theorem less_gtr : ∀ (l m : List UInt8), (!(Op.bytesLess l m || l == m)) = Op.bytesLess m l
 | [], [] => rfl
 | [], _ :: _ => rfl
 | _ :: _, [] => rfl
 | a :: x, b :: y => by
  have ih := less_gtr x y
  have h1 : (a < b) = (a.toNat < b.toNat) := propext UInt8.lt_iff_toNat_lt
  have h2 : (b < a) = (b.toNat < a.toNat) := propext UInt8.lt_iff_toNat_lt
  rcases Nat.lt_trichotomy a.toNat b.toNat with h | h | h
  ·have hne : ¬ b = a := fun e => by subst e; omega
   have hng : ¬ b.toNat < a.toNat := by omega
   simp [Op.bytesLess, h1, h2, h, hne, hng]
  ·obtain rfl : a = b := UInt8.toNat_inj.1 h
   simpa [Op.bytesLess] using ih
  ·have hne : ¬ a = b := fun e => by subst e; omega
   have hng : ¬ a.toNat < b.toNat := by omega
   simp [Op.bytesLess, h1, h2, h, hne, hng]
theorem run_gtr {P : Program} (t : TypeId) (a b : ByteArray) (w : World) {c : Bool} (h : Op.bytesLess b.toList a.toList = c) : (binOp .gtr t (.string a) (.string b)).run P w = .ok (.bool c) w := by
 subst h
 rw [← less_gtr]
 simp [binOp, Op.stringOp]
mutual
def spec_nuThose.l0 : Nat → Int → Int → Bool → List ByteArray → List (S31) → Int → Int → List ByteArray → Bool → Option (List ByteArray × Bool)
 | 0, _, _, _, _, _, _, _, _, _ => none
 | k + 1, x1, x2, x3, x12, x29, x30, x31, x219000, x219001 => if x31 < x30 then (if 0 ≤ x31 then (if x31 < (x29.length : Int) then ((spec_nuMoves.f k x219000 x219001 ((rd_T31 x29 x31).f0) ((rd_T31 x29 x31).f1)).bind fun bt224 => ((spec_nuText.f ((rd_T31 x29 x31).f0) ((rd_T31 x29 x31).f1)).bind fun t227 => (if bt224.1 = x1 then (if bt224.2.1 = x2 then ((spec_nuTrue.f k ((rd_T31 x29 x31).f0) ((rd_T31 x29 x31).f1)).bind fun t228 => (if (t228 != x3) = true then (spec_nuThose.j1 k x1 x2 x3 x12 t227 x29 x30 x31 true x219000 x219001) else ((spec_l1HasS.f k x12 t227).bind fun t229 => (spec_nuThose.j1 k x1 x2 x3 x12 t227 x29 x30 x31 t229 x219000 x219001)))) else (spec_nuThose.j1 k x1 x2 x3 x12 t227 x29 x30 x31 true x219000 x219001)) else (spec_nuThose.j1 k x1 x2 x3 x12 t227 x29 x30 x31 true x219000 x219001)))) else (none)) else (none)) else (some (x12, true))
def spec_nuThose.j1 : Nat → Int → Int → Bool → List ByteArray → ByteArray → List (S31) → Int → Int → Bool → List ByteArray → Bool → Option (List ByteArray × Bool)
 | 0, _, _, _, _, _, _, _, _, _, _, _ => none
 | k + 1, x1, x2, x3, x12, x18, x29, x30, x31, x62, x219000, x219001 => if x62 = true then (spec_nuThose.l0 k x1 x2 x3 x12 x29 x30 (wrap64 (x31 + 1)) x219000 x219001) else (spec_nuThose.l1 k x1 x2 x3 x12 x18 (x12.length : Int) x29 x30 x31 x219000 x219001)
def spec_nuThose.l1 : Nat → Int → Int → Bool → List ByteArray → ByteArray → Int → List (S31) → Int → Int → List ByteArray → Bool → Option (List ByteArray × Bool)
 | 0, _, _, _, _, _, _, _, _, _, _, _ => none
 | k + 1, x1, x2, x3, x12, x18, x19, x29, x30, x31, x219000, x219001 => if x19 > 0 then (if 0 ≤ (wrap64 (x19 - 1)) then (if (wrap64 (x19 - 1)) < (x12.length : Int) then (if (Op.bytesLess x18.toList ((rdOf ByteArray.empty x12 (wrap64 (x19 - 1))).toList)) = true then (spec_nuThose.l1 k x1 x2 x3 x12 x18 (wrap64 (x19 - 1)) x29 x30 x31 x219000 x219001) else ((some (([] : List ByteArray) : List ByteArray)).bind fun y231 => (if 0 ≤ x19 then (if x19 ≤ (x12.length : Int) then ((some (x12.take (x19 : Int).toNat : List ByteArray)).bind fun y234 => (if y231.length + y234.length < 8796093022208 then ((some (y231 ++ y234 : List ByteArray)).bind fun y239 => (if y239.length < 8796093022208 then ((some (y239 ++ [x18] : List ByteArray)).bind fun y242 => ((some (x12.drop (x19 : Int).toNat : List ByteArray)).bind fun y245 => (if y242.length + y245.length < 8796093022208 then (spec_nuThose.l0 k x1 x2 x3 (y242 ++ y245) x29 x30 (wrap64 (x31 + 1)) x219000 x219001) else (none)))) else (none))) else (none))) else (none)) else (none)))) else (none)) else (none)) else ((some (([] : List ByteArray) : List ByteArray)).bind fun y253 => (if 0 ≤ x19 then (if x19 ≤ (x12.length : Int) then ((some (x12.take (x19 : Int).toNat : List ByteArray)).bind fun y256 => (if y253.length + y256.length < 8796093022208 then ((some (y253 ++ y256 : List ByteArray)).bind fun y261 => (if y261.length < 8796093022208 then ((some (y261 ++ [x18] : List ByteArray)).bind fun y264 => ((some (x12.drop (x19 : Int).toNat : List ByteArray)).bind fun y267 => (if y264.length + y267.length < 8796093022208 then (spec_nuThose.l0 k x1 x2 x3 (y264 ++ y267) x29 x30 (wrap64 (x31 + 1)) x219000 x219001) else (none)))) else (none))) else (none))) else (none)) else (none)))
end
def spec_nuThose.f (k : Nat) (a0 : ByteArray) (a1 : Int) (a2 : Int) (a3 : Bool) : Option (List ByteArray × Bool) := (spec_nuRead.f k a0).bind fun bt213 => (if bt213.2.2 = true then ((spec_nuNear.f k bt213.1 bt213.2.1).bind fun t219 => (spec_nuThose.l0 k a1 a2 a3 ([] : List ByteArray) t219 (t219.length : Int) 0 bt213.1 bt213.2.1)) else (some (([] : List ByteArray), false)))
theorem spec_nuThose.mono_l : ∀ k, (∀ y0 y1 y2 y3 y4 y5 y6 y7 y8, LeO (spec_nuThose.l0 k y0 y1 y2 y3 y4 y5 y6 y7 y8) (spec_nuThose.l0 (k + 1) y0 y1 y2 y3 y4 y5 y6 y7 y8)) ∧ (∀ y0 y1 y2 y3 y4 y5 y6 y7 y8 y9 y10, LeO (spec_nuThose.j1 k y0 y1 y2 y3 y4 y5 y6 y7 y8 y9 y10) (spec_nuThose.j1 (k + 1) y0 y1 y2 y3 y4 y5 y6 y7 y8 y9 y10)) ∧ (∀ y0 y1 y2 y3 y4 y5 y6 y7 y8 y9 y10, LeO (spec_nuThose.l1 k y0 y1 y2 y3 y4 y5 y6 y7 y8 y9 y10) (spec_nuThose.l1 (k + 1) y0 y1 y2 y3 y4 y5 y6 y7 y8 y9 y10))
 | 0 => ⟨fun _ _ _ _ _ _ _ _ _ r h => by simp [spec_nuThose.l0] at h, fun _ _ _ _ _ _ _ _ _ _ _ r h => by simp [spec_nuThose.j1] at h, fun _ _ _ _ _ _ _ _ _ _ _ r h => by simp [spec_nuThose.l1] at h⟩
 | k + 1 => by
  obtain ⟨ih0, ih1, ih2⟩ := spec_nuThose.mono_l k
  refine ⟨?_, ?_, ?_⟩
  ·intro y0 y1 y2 y3 y4 y5 y6 y7 y8
   unfold spec_nuThose.l0
   repeat' first
   | (with_reducible exact ih0 _ _ _ _ _ _ _ _ _)
   | (with_reducible exact ih1 _ _ _ _ _ _ _ _ _ _ _)
   | (with_reducible exact ih2 _ _ _ _ _ _ _ _ _ _ _)
   | (with_reducible exact spec_l1HasS.mono _ _ _)
   | (with_reducible exact spec_nuMoves.mono _ _ _ _ _)
   | (with_reducible exact spec_nuNear.mono _ _ _)
   | (with_reducible exact spec_nuRead.mono _ _)
   | (with_reducible exact spec_nuTrue.mono _ _ _)
   | (with_reducible exact LeO.refl _)
   | (with_reducible exact LeO.none _)
   | (with_reducible refine LeO.ite ?_ ?_)
   | (with_reducible refine LeO.bind ?_ (fun _ => ?_))
   | exact ih0 _ _ _ _ _ _ _ _ _
   | exact ih1 _ _ _ _ _ _ _ _ _ _ _
   | exact ih2 _ _ _ _ _ _ _ _ _ _ _
   | exact spec_l1HasS.mono _ _ _
   | exact spec_nuMoves.mono _ _ _ _ _
   | exact spec_nuNear.mono _ _ _
   | exact spec_nuRead.mono _ _
   | exact spec_nuTrue.mono _ _ _
   | exact LeO.none _
   | refine LeO.ite ?_ ?_
   | refine LeO.bind ?_ (fun _ => ?_)
  ·intro y0 y1 y2 y3 y4 y5 y6 y7 y8 y9 y10
   unfold spec_nuThose.j1
   repeat' first
   | (with_reducible exact ih0 _ _ _ _ _ _ _ _ _)
   | (with_reducible exact ih1 _ _ _ _ _ _ _ _ _ _ _)
   | (with_reducible exact ih2 _ _ _ _ _ _ _ _ _ _ _)
   | (with_reducible exact spec_l1HasS.mono _ _ _)
   | (with_reducible exact spec_nuMoves.mono _ _ _ _ _)
   | (with_reducible exact spec_nuNear.mono _ _ _)
   | (with_reducible exact spec_nuRead.mono _ _)
   | (with_reducible exact spec_nuTrue.mono _ _ _)
   | (with_reducible exact LeO.refl _)
   | (with_reducible exact LeO.none _)
   | (with_reducible refine LeO.ite ?_ ?_)
   | (with_reducible refine LeO.bind ?_ (fun _ => ?_))
   | exact ih0 _ _ _ _ _ _ _ _ _
   | exact ih1 _ _ _ _ _ _ _ _ _ _ _
   | exact ih2 _ _ _ _ _ _ _ _ _ _ _
   | exact spec_l1HasS.mono _ _ _
   | exact spec_nuMoves.mono _ _ _ _ _
   | exact spec_nuNear.mono _ _ _
   | exact spec_nuRead.mono _ _
   | exact spec_nuTrue.mono _ _ _
   | exact LeO.none _
   | refine LeO.ite ?_ ?_
   | refine LeO.bind ?_ (fun _ => ?_)
  ·intro y0 y1 y2 y3 y4 y5 y6 y7 y8 y9 y10
   unfold spec_nuThose.l1
   repeat' first
   | (with_reducible exact ih0 _ _ _ _ _ _ _ _ _)
   | (with_reducible exact ih1 _ _ _ _ _ _ _ _ _ _ _)
   | (with_reducible exact ih2 _ _ _ _ _ _ _ _ _ _ _)
   | (with_reducible exact spec_l1HasS.mono _ _ _)
   | (with_reducible exact spec_nuMoves.mono _ _ _ _ _)
   | (with_reducible exact spec_nuNear.mono _ _ _)
   | (with_reducible exact spec_nuRead.mono _ _)
   | (with_reducible exact spec_nuTrue.mono _ _ _)
   | (with_reducible exact LeO.refl _)
   | (with_reducible exact LeO.none _)
   | (with_reducible refine LeO.ite ?_ ?_)
   | (with_reducible refine LeO.bind ?_ (fun _ => ?_))
   | exact ih0 _ _ _ _ _ _ _ _ _
   | exact ih1 _ _ _ _ _ _ _ _ _ _ _
   | exact ih2 _ _ _ _ _ _ _ _ _ _ _
   | exact spec_l1HasS.mono _ _ _
   | exact spec_nuMoves.mono _ _ _ _ _
   | exact spec_nuNear.mono _ _ _
   | exact spec_nuRead.mono _ _
   | exact spec_nuTrue.mono _ _ _
   | exact LeO.none _
   | refine LeO.ite ?_ ?_
   | refine LeO.bind ?_ (fun _ => ?_)
theorem spec_nuThose.mono : ∀ a0 a1 a2 a3 k, LeO (spec_nuThose.f k a0 a1 a2 a3) (spec_nuThose.f (k + 1) a0 a1 a2 a3) := by
 intro a0 a1 a2 a3 k
 obtain ⟨ih0, ih1, ih2⟩ := spec_nuThose.mono_l k
 unfold spec_nuThose.f
 repeat' first
   | (with_reducible exact ih0 _ _ _ _ _ _ _ _ _)
   | (with_reducible exact ih1 _ _ _ _ _ _ _ _ _ _ _)
   | (with_reducible exact ih2 _ _ _ _ _ _ _ _ _ _ _)
   | (with_reducible exact spec_l1HasS.mono _ _ _)
   | (with_reducible exact spec_nuMoves.mono _ _ _ _ _)
   | (with_reducible exact spec_nuNear.mono _ _ _)
   | (with_reducible exact spec_nuRead.mono _ _)
   | (with_reducible exact spec_nuTrue.mono _ _ _)
   | (with_reducible exact LeO.refl _)
   | (with_reducible exact LeO.none _)
   | (with_reducible refine LeO.ite ?_ ?_)
   | (with_reducible refine LeO.bind ?_ (fun _ => ?_))
   | exact ih0 _ _ _ _ _ _ _ _ _
   | exact ih1 _ _ _ _ _ _ _ _ _ _ _
   | exact ih2 _ _ _ _ _ _ _ _ _ _ _
   | exact spec_l1HasS.mono _ _ _
   | exact spec_nuMoves.mono _ _ _ _ _
   | exact spec_nuNear.mono _ _ _
   | exact spec_nuRead.mono _ _
   | exact spec_nuTrue.mono _ _ _
   | exact LeO.none _
   | refine LeO.ite ?_ ?_
   | refine LeO.bind ?_ (fun _ => ?_)
set_option maxHeartbeats 8000000 in
set_option maxRecDepth 100000 in
theorem spec_nuThose.calls (k : Nat) (a0 : ByteArray) (a1 : Int) (a2 : Int) (a3 : Bool) (r1 : List ByteArray) (r2 : Bool) (w : World) (h : spec_nuThose.f k a0 a1 a2 a3 = some (r1, r2)) :
  Calls Tryz.prog 18 #[.string a0, .int .i64 a1, .int .i64 a2, .bool a3] w fun e w' => ∃ v0_ : Value, e = .returned (.tuple #[v0_, .bool r2]) ∧ Kd.R Kd.string 9 w' w.heap.size (fun _ => True) v0_ r1 ∧ Below w.heap.size w w' := by
 have hu31 := Tryz.underlying31
 have HB := Aside0.mk (Below.refl w.heap.size w)
 have H : ((spec_nuRead.f k a0).bind fun bt213 => (if bt213.2.2 = true then ((spec_nuNear.f k bt213.1 bt213.2.1).bind fun t219 => (spec_nuThose.l0 k a1 a2 a3 ([] : List ByteArray) t219 (t219.length : Int) 0 bt213.1 bt213.2.1)) else (some (([] : List ByteArray), false)))) = some (r1, r2) := h
 clear h
 replace H := Option.bind_eq_some_iff.mp H
 obtain ⟨⟨t213, t216, t217⟩, A50, H⟩ := H
 replace H : (if t217 = true then ((spec_nuNear.f k t213 t216).bind fun t219 => (spec_nuThose.l0 k a1 a2 a3 ([] : List ByteArray) t219 (t219.length : Int) 0 t213 t216)) else (some (([] : List ByteArray), false))) = some (r1, r2) := H
 have A5 := Aside0.mk A50
 clear A50
 by_cases c6 : t217 = true
 ·subst c6
  have H1 : ((spec_nuNear.f k t213 t216).bind fun t219 => (spec_nuThose.l0 k a1 a2 a3 ([] : List ByteArray) t219 (t219.length : Int) 0 t213 t216)) = some (r1, r2) := by rw [if_pos rfl] at H; exact H
  clear H
  have H := H1
  clear H1
  replace H := Option.bind_eq_some_iff.mp H
  obtain ⟨t219, A70, H⟩ := H
  replace H : (spec_nuThose.l0 k a1 a2 a3 ([] : List ByteArray) t219 (t219.length : Int) 0 t213 t216) = some (r1, r2) := H
  have A7 := Aside0.mk A70
  clear A70
  have H' := Aside0.mk H
  clear H
  go_enter Tryz.func18, Tryz.ntmps18
  go_wp2_with (first | ((with_reducible refine gate_callee (f := 21) rfl ?_); refine goesL_ (some 23) rfl rfl Tryz.func21 (by kernel_rfl) rfl #[.string a0] rfl (by (try simp only [List.map_toArray, List.map_cons, List.map_nil]); first | done | rfl | (simp only [List.length_drop, List.length_take]; rfl)) ?_; (with_reducible refine (spec_nuRead.calls k a0 t213 t216 true _ A5.out).mono ?_); rintro e w8 ⟨v214, rfl, ho0, hb⟩; refine ⟨_, rfl, ?_⟩; have n0_ := Aside0.mk (Kd.R_lower ho0 (below_size (by repeat (first | (with_reducible first | exact HB.out | apply below_alloc | apply pw_below_drewN | apply below_drew1) | exact HB.out)))); have n1_ := Aside0.mk (below_step (by repeat (first | (with_reducible first | exact HB.out | apply below_alloc | apply pw_below_drewN | apply below_drew1) | exact HB.out)) hb); clear HB; have HO215 := n0_; have HB := n1_; clear n0_ n1_; (try clear hb); (try clear hb2); (try clear hk); (try clear hi); (try clear ho0)) | ((with_reducible refine gate_dst (N := 10) rfl ?_); refine box_event ?hg (N := 10) ?hd (cs := #[.slice none 0 0, .bool false]) (t := 31) ?hr ?_; (case hd => rfl); (case hg => rfl); (case hr => first | (go_simp; done) | (go_simp; rfl)); intro gb218 hg w9 hbox hb; have n0_ := Aside0.mk (Kd.R_below (by (with_reducible repeat (first | apply Kd.R_alloc | apply Kd.R_drewN | apply Kd.R_drew)); exact HO215.out) hb); have n1_ := Aside0.mk (below_step (by repeat (first | (with_reducible first | exact HB.out | apply below_alloc | apply pw_below_drewN | apply below_drew1) | exact HB.out)) hb); have n2_ := Aside0.mk (hbox); have n3_ := Aside0.mk ((by rw [hg]; exact (below_size (by repeat (first | (with_reducible first | exact HB.out | apply below_alloc | apply pw_below_drewN | apply below_drew1) | exact HB.out))) : w.heap.size ≤ gb218)); have n4_ := Aside0.mk ((by rw [hg]; exact (below_size (by repeat (first | (with_reducible first | exact HB.out | apply below_alloc | apply pw_below_drewN | apply below_drew1) | exact HB.out))) : w.heap.size ≤ gb218)); clear HO215; clear HB; have HO215 := n0_; have HB := n1_; have BK218 := n2_; have GW218 := n3_; have GE218 := n4_; clear n0_ n1_ n2_ n3_ n4_; clear hb hbox hg; obtain ⟨Ao10, co10, eo10⟩ := Kd.R_slice HO215.out; subst eo10; have hcz11_0 : w9.cell? ⟨gb218, 0, none⟩ = some (.slice none 0 0) := (blk_cell BK218.out 0).trans rfl; have hcz11_1 : w9.cell? ⟨gb218, 1, none⟩ = some (.bool false) := (blk_cell BK218.out 1).trans rfl; have hfz11_0 := blk_frozen BK218.out 0; have hfz11_1 := blk_frozen BK218.out 1) | ((with_reducible refine gate_store (t := 31) (p := 10) rfl ?_); refine store_event (t := 31) (p := 10) (v := ?vo_w12) (w1 := ((w9.setCell ⟨gb218, 0, none⟩ (.slice Ao10 t213.length co10)).setCell ⟨gb218, 1, none⟩ (.bool t216))) ?hg ?ho ?hn ?hr ?_; (case ho => rfl); (case hg => rfl); (case hn => rfl); (case hr => first | (go_simp; done) | (go_simp; rfl)); intro w12 hw; have n0_ : Aside0 (Kd.R Kd.string 9 w12 w.heap.size (fun _ => True) (.slice Ao10 t213.length co10) t213) := ⟨(by rw [hw]; exact (by (with_reducible repeat (first | apply Kd.R_alloc | apply Kd.R_drewN | apply Kd.R_drew)); exact Kd.R_mono (Kd.R_far (p := ⟨gb218, 1, none⟩) (Kd.R_far (p := ⟨gb218, 0, none⟩) (Kd.R_types HO215.out BK218.out (by decide)) (fun _ hk => hk.2) (.slice Ao10 t213.length co10)) (fun _ hk => hk.2) (.bool t216)) (fun _ hk => trivial)))⟩; have n1_ : Aside0 (w12.heap[gb218]? = some (.cells #[.slice Ao10 t213.length co10, .bool t216] 31 (0, 0))) := ⟨(by rw [hw]; exact (by (with_reducible repeat (first | refine blk_drewN ?_ _ | refine blk_drew ?_ | refine blk_alloc ?_ _)); refine blk_put (cs := #[.slice Ao10 t213.length co10, .bool false]) ?_ 1 _ rfl; (with_reducible repeat (first | refine blk_drewN ?_ _ | refine blk_drew ?_ | refine blk_alloc ?_ _)); refine blk_put (cs := #[.slice none 0 0, .bool false]) ?_ 0 _ rfl; (with_reducible repeat (first | refine blk_drewN ?_ _ | refine blk_drew ?_ | refine blk_alloc ?_ _)); exact BK218.out))⟩; have n2_ : Aside0 (Below w.heap.size w w12) := ⟨(by rw [hw]; exact (by repeat (first | (with_reducible first | exact HB.out | apply below_alloc | apply pw_below_drewN | apply below_drew1 | refine below_set ?_ GE218.out) | exact HB.out)))⟩; clear hw; clear HO215; clear BK218; clear HB; have HO215 := n0_; have BK218 := n1_; have HB := n2_; clear n0_ n1_ n2_; have hcz13_0 : w12.cell? ⟨gb218, 0, none⟩ = some (.slice Ao10 t213.length co10) := (blk_cell BK218.out 0).trans rfl; have hcz13_1 : w12.cell? ⟨gb218, 1, none⟩ = some (.bool t216) := (blk_cell BK218.out 1).trans rfl; have hfz13_0 := blk_frozen BK218.out 0; have hfz13_1 := blk_frozen BK218.out 1) | ((with_reducible refine gate_callee (f := 22) rfl ?_); refine goesL_ (some 29) rfl rfl Tryz.func22 (by kernel_rfl) rfl #[.agg #[.slice Ao10 t213.length co10, .bool t216]] rfl (by (try simp only [List.map_toArray, List.map_cons, List.map_nil]); first | done | rfl | (simp only [List.length_drop, List.length_take]; rfl)) ?_; (with_reducible refine (spec_nuNear.calls k (fun k_ => some k_ = (.slice Ao10 t213.length co10 : Value).ownBlock) _ _ t213 t216 t219 _ ?side1 A7.out).mono ?_); (case side1 => exact Kd.R_V (Kd.R_tight rfl (Kd.R_types (HO215.out) BK218.out (by decide)))); rintro e w14 ⟨v220, rfl, ho0, hb⟩; refine ⟨_, rfl, ?_⟩; have n0_ := Aside0.mk (Kd.R_below (by (with_reducible repeat (first | apply Kd.R_alloc | apply Kd.R_drewN | apply Kd.R_drew)); exact HO215.out) hb); have n1_ := Aside0.mk (Kd.N_lower (Kd.N_mono (ok' := fun k_ => k_ ≠ gb218) ho0 (fun k_ hk_ => Or.elim hk_ (fun hs_ => ((Kd.R_types (HO215.out) BK218.out (by decide)).1 k_ hs_.symm).2) (fun hn_ => (Kd.freshB (g := gb218) (o := .cells #[.slice Ao10 t213.length co10, .bool t216] 31 (0, 0)) (by (with_reducible repeat (first | refine blk_drewN ?_ _ | refine blk_drew ?_ | refine blk_alloc ?_ _)); exact BK218.out) k_ hn_)))) (below_size (by repeat (first | (with_reducible first | exact HB.out | apply below_alloc | apply pw_below_drewN | apply below_drew1 | refine below_set ?_ GE218.out) | exact HB.out)))); have n2_ := Aside0.mk (blk_below (g := gb218) (o := .cells #[.slice Ao10 t213.length co10, .bool t216] 31 (0, 0)) (by (with_reducible repeat (first | refine blk_drewN ?_ _ | refine blk_drew ?_ | refine blk_alloc ?_ _)); exact BK218.out) hb); have n3_ := Aside0.mk (below_step (by repeat (first | (with_reducible first | exact HB.out | apply below_alloc | apply pw_below_drewN | apply below_drew1 | refine below_set ?_ GE218.out) | exact HB.out)) hb); clear HO215; clear BK218; clear HB; have HO215 := n0_; have HO221 := n1_; have BK218 := n2_; have HB := n3_; clear n0_ n1_ n2_ n3_; (try clear hb); (try clear hb2); (try clear hk); (try clear hi); (try clear ho0); obtain ⟨Ao15, co15, eo15⟩ := Kd.N_slice HO221.out; subst eo15))
  go_loopg [12, 31] k (fun kq v12 v31 w' => ∃ (x12_1 : List ByteArray) (x31_1 : Int), v31 = .int .i64 x31_1 ∧ Aside0 (spec_nuThose.l0 kq a1 a2 a3 x12_1 t219 (t219.length : Int) x31_1 t213 t216 = some (r1, r2)) ∧ Aside0 (kq ≤ k) ∧ Aside0 (Kd.R Kd.string 9 w' w.heap.size (fun k_ => some k_ ≠ ((.slice Ao10 t213.length co10) : Value).ownBlock) v12 x12_1) ∧ Aside0 (Kd.N k31 31 w' w.heap.size (fun k_ => some k_ ≠ (v12 : Value).ownBlock ∧ k_ ≠ gb218) (.slice Ao15 t219.length co15) t219) ∧ Aside0 (Kd.R Kd.string 9 w' w.heap.size (fun k_ => some k_ ≠ (v12 : Value).ownBlock) (.slice Ao10 t213.length co10) t213) ∧ Aside0 (w'.heap[gb218]? = some (.cells #[(.slice Ao10 t213.length co10), .bool t216] 31 (0, 0))) ∧ Aside0 (Below w.heap.size w w'))
  case atStart => exact ⟨(([] : List ByteArray)), (0), (by first | rfl | (simp; done) | (simp [*]; done)), H', ⟨Nat.le_refl _⟩, ⟨by first | exact Kd.R_nil _ _ _ _ _ | exact Kd.N_nil _ _ _ _ _ | exact Kd.V_nil _ _ _ _ _ | exact Kd.Q_nil _ _ _ _ _ | exact Kd.S_nil _ _ _ _ _⟩, ⟨by (with_reducible repeat (first | apply Kd.N_alloc | apply Kd.N_drewN | apply Kd.N_drew)); exact Kd.N_mono HO221.out (fun _ hk => ⟨(by simp [Value.ownBlock]), hk⟩)⟩, ⟨by (with_reducible repeat (first | apply Kd.R_alloc | apply Kd.R_drewN | apply Kd.R_drew)); exact Kd.R_mono HO215.out (fun _ hk => (by simp [Value.ownBlock]))⟩, ⟨by (with_reducible repeat (first | refine blk_drewN ?_ _ | refine blk_drew ?_ | refine blk_alloc ?_ _)); exact BK218.out⟩, ⟨by repeat (first | (with_reducible first | exact HB.out | apply below_alloc | apply pw_below_drewN | apply below_drew1 | refine below_set ?_ GE218.out) | exact HB.out)⟩⟩
  case round =>
   clear H'
   try clear c1
   try clear c2
   try clear p2
   try clear c6
   try clear hcz11_0
   try clear hcz11_1
   try clear hcz13_0
   try clear hcz13_1
   try clear hfz11_0
   try clear hfz11_1
   try clear hfz13_0
   try clear hfz13_1
   obtain ⟨x12_1, x31_1, rfl, HA, HK1, HO_12, HO_29, HO_219000, BK218, HB⟩ := hrel
   cases gk with
   | zero => exact absurd HA.out (by simp [spec_nuThose.l0])
   | succ k1 =>
    have H := HA.out
    clear HA
    simp only [spec_nuThose.l0] at H
    by_cases c16 : x31_1 < (t219.length : Int)
    ·rw [if_pos c16] at H
     have c16b0 : decide (x31_1 < (t219.length : Int)) = true := decide_eq_true c16
     clear c16
     by_cases c17 : 0 ≤ x31_1
     ·rw [if_pos c17] at H
      have c17b0 : decide (0 ≤ x31_1) = true := decide_eq_true c17
      clear c17
      by_cases c18 : x31_1 < (t219.length : Int)
      ·rw [if_pos c18] at H
       have c18b0 : decide (x31_1 < (t219.length : Int)) = true := decide_eq_true c18
       clear c18
       replace H := Option.bind_eq_some_iff.mp H
       obtain ⟨⟨t224, t225, t226⟩, A190, H⟩ := H
       replace H : ((spec_nuText.f ((rd_T31 t219 x31_1).f0) ((rd_T31 t219 x31_1).f1)).bind fun t227 => (if t224 = a1 then (if t225 = a2 then ((spec_nuTrue.f k1 ((rd_T31 t219 x31_1).f0) ((rd_T31 t219 x31_1).f1)).bind fun t228 => (if (t228 != a3) = true then (spec_nuThose.j1 k1 a1 a2 a3 x12_1 t227 t219 (t219.length : Int) x31_1 true t213 t216) else ((spec_l1HasS.f k1 x12_1 t227).bind fun t229 => (spec_nuThose.j1 k1 a1 a2 a3 x12_1 t227 t219 (t219.length : Int) x31_1 t229 t213 t216)))) else (spec_nuThose.j1 k1 a1 a2 a3 x12_1 t227 t219 (t219.length : Int) x31_1 true t213 t216)) else (spec_nuThose.j1 k1 a1 a2 a3 x12_1 t227 t219 (t219.length : Int) x31_1 true t213 t216))) = some (r1, r2) := H
       have A19 := Aside0.mk A190
       clear A190
       replace H := Option.bind_eq_some_iff.mp H
       obtain ⟨t227, A200, H⟩ := H
       replace H : (if t224 = a1 then (if t225 = a2 then ((spec_nuTrue.f k1 ((rd_T31 t219 x31_1).f0) ((rd_T31 t219 x31_1).f1)).bind fun t228 => (if (t228 != a3) = true then (spec_nuThose.j1 k1 a1 a2 a3 x12_1 t227 t219 (t219.length : Int) x31_1 true t213 t216) else ((spec_l1HasS.f k1 x12_1 t227).bind fun t229 => (spec_nuThose.j1 k1 a1 a2 a3 x12_1 t227 t219 (t219.length : Int) x31_1 t229 t213 t216)))) else (spec_nuThose.j1 k1 a1 a2 a3 x12_1 t227 t219 (t219.length : Int) x31_1 true t213 t216)) else (spec_nuThose.j1 k1 a1 a2 a3 x12_1 t227 t219 (t219.length : Int) x31_1 true t213 t216)) = some (r1, r2) := H
       have A20 := Aside0.mk A200
       clear A200
       have HC21 := Aside0.mk H
       clear H
       have p222 : 0 ≤ (x31_1 : Int) := of_decide_eq_true (by first | (with_reducible assumption) | assumption)
       have q222 : x31_1 < (t219.length : Int) := of_decide_eq_true (by first | (with_reducible assumption) | assumption)
       obtain ⟨ad222, A222_0, c222_0, e222, hx222_0, hx222_1, hl222_0, hi222_0⟩ := at_T31 (Kd.N_reads' HO_29.out).2.2 x31_1 p222 q222
       cases e222
       obtain ⟨ce222, hce222, hMe222, hcc222⟩ := Kd.N_get HO_29.out z31 x31_1 p222 (by first | exact q222 | exact of_decide_eq_true (by first | (with_reducible assumption) | assumption) | (have e_ := (Kd.N_reads' HO_29.out).1; omega))
       obtain ⟨ua222_0, uc222_0, rfl, ul222_0, ge222_0⟩ := k31_openF hMe222
       have hv222_0 := hcc222 0 _ rfl
       rw [Nat.add_zero] at hv222_0
       replace hv222_0 := Option.some.inj (hv222_0.symm.trans hx222_0)
       injection hv222_0 with hva_ hvn_ hvc_
       rw [hva_] at ge222_0
       rw [hvc_] at ul222_0
       have HL222_0 := Aside0.mk (show Kd.V Kd.string 9 _ w.heap.size _ _ ((rd_T31 t219 x31_1).f0) from Kd.V_mk ul222_0 ge222_0)
       clear hva_ hvn_ hvc_ ge222_0 ul222_0
       clear hcc222 hce222
       have HR222_0 := Aside0.mk hi222_0
       have HC222_0 := Aside0.mk hl222_0
       clear hi222_0 hl222_0
       replace p222 := eq_true p222
       replace q222 := eq_true q222
       go_upto_region 10 with (first | ((with_reducible refine gate_dst (N := 14) rfl ?_); refine box_event ?hg (N := 14) ?hd (cs := #[.slice none 0 0, .bool false]) (t := 31) ?hr ?_; (case hd => rfl); (case hg => rfl); (case hr => first | (go_simp; done) | (go_simp; rfl)); intro gb223 hg w22 hbox hb; have n0_ := Aside0.mk (Kd.R_below (by (with_reducible repeat (first | apply Kd.R_alloc | apply Kd.R_drewN | apply Kd.R_drew)); exact HO_12.out) hb); have n1_ := Aside0.mk (Kd.N_below (Kd.N_elderB (by (with_reducible repeat (first | apply Kd.N_alloc | apply Kd.N_drewN | apply Kd.N_drew)); exact HO_29.out) gb223 (Nat.le_of_eq hg.symm)) hb); have n2_ := Aside0.mk (Kd.R_below (by (with_reducible repeat (first | apply Kd.R_alloc | apply Kd.R_drewN | apply Kd.R_drew)); exact HO_219000.out) hb); have n3_ := Aside0.mk (Kd.V_below (Kd.V_elderB (by (with_reducible repeat (first | apply Kd.V_alloc | apply Kd.V_drewN | apply Kd.V_drew)); exact HL222_0.out) gb223 (Nat.le_of_eq hg.symm)) hb); have n4_ := Aside0.mk (blk_below (g := gb218) (o := .cells #[.slice Ao10 t213.length co10, .bool t216] 31 (0, 0)) (by (with_reducible repeat (first | refine blk_drewN ?_ _ | refine blk_drew ?_ | refine blk_alloc ?_ _)); exact BK218.out) hb); have n5_ := Aside0.mk (Kd.C_below (by repeat (first | (with_reducible exact HR222_0.out) | (with_reducible refine Kd.C_alloc ?_ _) | (with_reducible refine Kd.C_drewN ?_ _) | (with_reducible refine Kd.C_drew ?_) | exact HR222_0.out)) hb); have n6_ := Aside0.mk (below_step (by repeat (first | (with_reducible first | exact HB.out | apply below_alloc | apply pw_below_drewN | apply below_drew1 | refine below_set ?_ GE218.out) | exact HB.out)) hb); have n7_ := Aside0.mk (hbox); have n8_ := Aside0.mk ((by rw [hg]; exact (below_size (by repeat (first | (with_reducible first | exact HB.out | apply below_alloc | apply pw_below_drewN | apply below_drew1 | refine below_set ?_ GE218.out) | exact HB.out))) : w.heap.size ≤ gb223)); have n9_ := Aside0.mk ((by rw [hg]; exact (below_size (by repeat (first | (with_reducible first | exact HB.out | apply below_alloc | apply pw_below_drewN | apply below_drew1 | refine below_set ?_ GE218.out) | exact HB.out))) : w.heap.size ≤ gb223)); have n10_ := Aside0.mk ((by rw [hg]; exact Nat.ne_of_lt (blk_lt (g := gb218) (o := .cells #[.slice Ao10 t213.length co10, .bool t216] 31 (0, 0)) (by (with_reducible repeat (first | refine blk_drewN ?_ _ | refine blk_drew ?_ | refine blk_alloc ?_ _)); exact BK218.out)) : gb218 ≠ gb223)); have n11_ := Aside0.mk ((by rw [hg]; exact Nat.ne_of_gt (blk_lt (g := gb218) (o := .cells #[.slice Ao10 t213.length co10, .bool t216] 31 (0, 0)) (by (with_reducible repeat (first | refine blk_drewN ?_ _ | refine blk_drew ?_ | refine blk_alloc ?_ _)); exact BK218.out)) : gb223 ≠ gb218)); clear HO_12; clear HO_29; clear HO_219000; clear HL222_0; clear BK218; clear HR222_0; clear HB; have HO_12 := n0_; have HO_29 := n1_; have HO_219000 := n2_; have HL222_0 := n3_; have BK218 := n4_; have HR222_0 := n5_; have HB := n6_; have BK223 := n7_; have GW223 := n8_; have GE223 := n9_; have NB218_223 := n10_; have NB223_218 := n11_; clear n0_ n1_ n2_ n3_ n4_ n5_ n6_ n7_ n8_ n9_ n10_ n11_; clear hb hbox hg; have hnb23 := NB223_218.out; have hnc23 := NB218_223.out; have hcz24_0 : w22.cell? ⟨gb223, 0, none⟩ = some (.slice none 0 0) := (blk_cell BK223.out 0).trans rfl; have hcz24_1 : w22.cell? ⟨gb223, 1, none⟩ = some (.bool false) := (blk_cell BK223.out 1).trans rfl; have hfz24_0 := blk_frozen BK223.out 0; have hfz24_1 := blk_frozen BK223.out 1; have hcz25_0 : w22.cell? ⟨gb218, 0, none⟩ = some (.slice Ao10 t213.length co10) := (blk_cell BK218.out 0).trans rfl; have hcz25_1 : w22.cell? ⟨gb218, 1, none⟩ = some (.bool t216) := (blk_cell BK218.out 1).trans rfl; have hfz25_0 := blk_frozen BK218.out 0; have hfz25_1 := blk_frozen BK218.out 1) | ((with_reducible refine gate_callee (f := 23) rfl ?_); refine goesL_ (some 38) rfl rfl Tryz.func23 (by kernel_rfl) rfl #[.agg #[.slice Ao10 t213.length co10, .bool t216], .agg #[.slice A222_0 ((rd_T31 t219 x31_1).f0).length c222_0, .bool ((rd_T31 t219 x31_1).f1)]] rfl (by (try simp only [List.map_toArray, List.map_cons, List.map_nil]); first | done | rfl | (simp only [List.length_drop, List.length_take]; rfl)) ?_; (with_reducible refine (spec_nuMoves.calls k1 _ _ t213 t216 _ _ ((rd_T31 t219 x31_1).f0) ((rd_T31 t219 x31_1).f1) t224 t225 t226 _ ?side1 ?side2 ?side3 ?side4 A19.out).mono ?_); (case side1 => refine (Kd.R_reads' (e := 9) (base := w.heap.size) (ok := fun k_ => some k_ ≠ (u12 : Value).ownBlock) (n := t213.length) (c := co10) ?_).2.2; exact (by (with_reducible repeat (first | apply Kd.R_alloc | apply Kd.R_drewN | apply Kd.R_drew)); exact (Kd.R_mono (Kd.R_far (p := ⟨gb223, 1, none⟩) (Kd.R_far (p := ⟨gb223, 0, none⟩) (Kd.R_types HO_219000.out BK223.out (by decide)) (fun _ hk => hk.2) (.slice A222_0 ((rd_T31 t219 x31_1).f0).length c222_0)) (fun _ hk => hk.2) (.bool ((rd_T31 t219 x31_1).f1))) (fun _ h_ => h_.1)))); (case side2 => exact (Kd.R_reads' HO_219000.out).2.1); (case side3 => repeat (first | exact ((Kd.V_reads' (by (with_reducible repeat (first | apply Kd.V_alloc | apply Kd.V_drewN | apply Kd.V_drew)); exact (Kd.V_mono (Kd.V_far (p := ⟨gb223, 1, none⟩) (Kd.V_far (p := ⟨gb223, 0, none⟩) (Kd.V_mono HL222_0.out (fun k_ hk => (⟨hk, hk.2⟩ : _ ∧ k_ ≠ gb223))) (fun _ hk => hk.2) (.slice A222_0 ((rd_T31 t219 x31_1).f0).length c222_0)) (fun _ hk => hk.2) (.bool ((rd_T31 t219 x31_1).f1))) (fun _ h_ => h_.1)))).2.2) | (with_reducible refine Kd.C_alloc ?_ _) | (with_reducible refine Kd.C_drewN ?_ _) | (with_reducible refine Kd.C_drew ?_))); (case side4 => exact HC222_0.out); rintro e w26 ⟨rfl, hb⟩; refine ⟨_, rfl, ?_⟩; have n0_ := Aside0.mk (Kd.R_below (by (with_reducible repeat (first | apply Kd.R_alloc | apply Kd.R_drewN | apply Kd.R_drew)); exact (Kd.R_mono (Kd.R_far (p := ⟨gb223, 1, none⟩) (Kd.R_far (p := ⟨gb223, 0, none⟩) (Kd.R_types HO_12.out BK223.out (by decide)) (fun _ hk => hk.2) (.slice A222_0 ((rd_T31 t219 x31_1).f0).length c222_0)) (fun _ hk => hk.2) (.bool ((rd_T31 t219 x31_1).f1))) (fun _ h_ => h_.1))) hb); have n1_ := Aside0.mk (Kd.N_below (by (with_reducible repeat (first | apply Kd.N_alloc | apply Kd.N_drewN | apply Kd.N_drew)); exact (Kd.N_mono (Kd.N_far (p := ⟨gb223, 1, none⟩) (Kd.N_far (p := ⟨gb223, 0, none⟩) (Kd.N_mono HO_29.out (fun k_ hk => (⟨hk, hk.2⟩ : _ ∧ k_ ≠ gb223))) (fun _ hk => hk.2) (.slice A222_0 ((rd_T31 t219 x31_1).f0).length c222_0)) (fun _ hk => hk.2) (.bool ((rd_T31 t219 x31_1).f1))) (fun _ h_ => h_.1))) hb); have n2_ := Aside0.mk (Kd.R_below (by (with_reducible repeat (first | apply Kd.R_alloc | apply Kd.R_drewN | apply Kd.R_drew)); exact (Kd.R_mono (Kd.R_far (p := ⟨gb223, 1, none⟩) (Kd.R_far (p := ⟨gb223, 0, none⟩) (Kd.R_types HO_219000.out BK223.out (by decide)) (fun _ hk => hk.2) (.slice A222_0 ((rd_T31 t219 x31_1).f0).length c222_0)) (fun _ hk => hk.2) (.bool ((rd_T31 t219 x31_1).f1))) (fun _ h_ => h_.1))) hb); have n3_ := Aside0.mk (Kd.V_below (by (with_reducible repeat (first | apply Kd.V_alloc | apply Kd.V_drewN | apply Kd.V_drew)); exact (Kd.V_mono (Kd.V_far (p := ⟨gb223, 1, none⟩) (Kd.V_far (p := ⟨gb223, 0, none⟩) (Kd.V_mono HL222_0.out (fun k_ hk => (⟨hk, hk.2⟩ : _ ∧ k_ ≠ gb223))) (fun _ hk => hk.2) (.slice A222_0 ((rd_T31 t219 x31_1).f0).length c222_0)) (fun _ hk => hk.2) (.bool ((rd_T31 t219 x31_1).f1))) (fun _ h_ => h_.1))) hb); have n4_ := Aside0.mk (blk_below (g := gb218) (o := .cells #[.slice Ao10 t213.length co10, .bool t216] 31 (0, 0)) (by (with_reducible repeat (first | refine blk_drewN ?_ _ | refine blk_drew ?_ | refine blk_alloc ?_ _)); refine blk_far ?_ NB218_223.out _; (with_reducible repeat (first | refine blk_drewN ?_ _ | refine blk_drew ?_ | refine blk_alloc ?_ _)); refine blk_far ?_ NB218_223.out _; (with_reducible repeat (first | refine blk_drewN ?_ _ | refine blk_drew ?_ | refine blk_alloc ?_ _)); exact BK218.out) hb); have n5_ := Aside0.mk (Kd.C_below ((Kd.V_reads' (by (with_reducible repeat (first | apply Kd.V_alloc | apply Kd.V_drewN | apply Kd.V_drew)); exact (Kd.V_mono (Kd.V_far (p := ⟨gb223, 1, none⟩) (Kd.V_far (p := ⟨gb223, 0, none⟩) (Kd.V_mono HL222_0.out (fun k_ hk => (⟨hk, hk.2⟩ : _ ∧ k_ ≠ gb223))) (fun _ hk => hk.2) (.slice A222_0 ((rd_T31 t219 x31_1).f0).length c222_0)) (fun _ hk => hk.2) (.bool ((rd_T31 t219 x31_1).f1))) (fun _ h_ => h_.1)))).2.2) hb); have n6_ := Aside0.mk (blk_below (g := gb223) (o := .cells #[.slice A222_0 ((rd_T31 t219 x31_1).f0).length c222_0, .bool ((rd_T31 t219 x31_1).f1)] 31 (0, 0)) (by (with_reducible repeat (first | refine blk_drewN ?_ _ | refine blk_drew ?_ | refine blk_alloc ?_ _)); refine blk_put (cs := #[.slice A222_0 ((rd_T31 t219 x31_1).f0).length c222_0, .bool false]) ?_ 1 _ rfl; (with_reducible repeat (first | refine blk_drewN ?_ _ | refine blk_drew ?_ | refine blk_alloc ?_ _)); refine blk_put (cs := #[.slice none 0 0, .bool false]) ?_ 0 _ rfl; (with_reducible repeat (first | refine blk_drewN ?_ _ | refine blk_drew ?_ | refine blk_alloc ?_ _)); exact BK223.out) hb); have n7_ := Aside0.mk (below_step (by repeat (first | (with_reducible first | exact HB.out | apply below_alloc | apply pw_below_drewN | apply below_drew1 | refine below_set ?_ GE218.out | refine below_set ?_ GE223.out) | exact HB.out)) hb); clear HO_12; clear HO_29; clear HO_219000; clear HL222_0; clear BK218; clear HR222_0; clear BK223; clear HB; have HO_12 := n0_; have HO_29 := n1_; have HO_219000 := n2_; have HL222_0 := n3_; have BK218 := n4_; have HR222_0 := n5_; have BK223 := n6_; have HB := n7_; clear n0_ n1_ n2_ n3_ n4_ n5_ n6_ n7_; (try clear hb); (try clear hb2); (try clear hk); (try clear hi); have hcz27_0 : w26.cell? ⟨gb223, 0, none⟩ = some (.slice A222_0 ((rd_T31 t219 x31_1).f0).length c222_0) := (blk_cell BK223.out 0).trans rfl; have hcz27_1 : w26.cell? ⟨gb223, 1, none⟩ = some (.bool ((rd_T31 t219 x31_1).f1)) := (blk_cell BK223.out 1).trans rfl; have hfz27_0 := blk_frozen BK223.out 0; have hfz27_1 := blk_frozen BK223.out 1) | ((with_reducible refine gate_callee (f := 24) rfl ?_); refine goesL_ (some 43) rfl rfl Tryz.func24 (by kernel_rfl) rfl #[.agg #[.slice A222_0 ((rd_T31 t219 x31_1).f0).length c222_0, .bool ((rd_T31 t219 x31_1).f1)]] rfl (by (try simp only [List.map_toArray, List.map_cons, List.map_nil]); first | done | rfl | (simp only [List.length_drop, List.length_take]; rfl)) ?_; (with_reducible refine (spec_nuText.calls _ _ ((rd_T31 t219 x31_1).f0) ((rd_T31 t219 x31_1).f1) t227 _ ?side1 ?side2 A20.out).mono ?_); (case side1 => repeat (first | exact (by repeat (first | (with_reducible exact HR222_0.out) | (with_reducible refine Kd.C_alloc ?_ _) | (with_reducible refine Kd.C_drewN ?_ _) | (with_reducible refine Kd.C_drew ?_) | exact HR222_0.out)) | (with_reducible refine Kd.C_alloc ?_ _) | (with_reducible refine Kd.C_drewN ?_ _) | (with_reducible refine Kd.C_drew ?_))); (case side2 => exact HC222_0.out); rintro e w28 ⟨rfl, hb⟩; refine ⟨_, rfl, ?_⟩; have n0_ := Aside0.mk (Kd.R_below (by (with_reducible repeat (first | apply Kd.R_alloc | apply Kd.R_drewN | apply Kd.R_drew)); exact HO_12.out) hb); have n1_ := Aside0.mk (Kd.N_below (by (with_reducible repeat (first | apply Kd.N_alloc | apply Kd.N_drewN | apply Kd.N_drew)); exact HO_29.out) hb); have n2_ := Aside0.mk (Kd.R_below (by (with_reducible repeat (first | apply Kd.R_alloc | apply Kd.R_drewN | apply Kd.R_drew)); exact HO_219000.out) hb); have n3_ := Aside0.mk (Kd.V_below (by (with_reducible repeat (first | apply Kd.V_alloc | apply Kd.V_drewN | apply Kd.V_drew)); exact HL222_0.out) hb); have n4_ := Aside0.mk (blk_below (g := gb218) (o := .cells #[.slice Ao10 t213.length co10, .bool t216] 31 (0, 0)) (by (with_reducible repeat (first | refine blk_drewN ?_ _ | refine blk_drew ?_ | refine blk_alloc ?_ _)); exact BK218.out) hb); have n5_ := Aside0.mk (Kd.C_below (by repeat (first | (with_reducible exact HR222_0.out) | (with_reducible refine Kd.C_alloc ?_ _) | (with_reducible refine Kd.C_drewN ?_ _) | (with_reducible refine Kd.C_drew ?_) | exact HR222_0.out)) hb); have n6_ := Aside0.mk (blk_below (g := gb223) (o := .cells #[.slice A222_0 ((rd_T31 t219 x31_1).f0).length c222_0, .bool ((rd_T31 t219 x31_1).f1)] 31 (0, 0)) (by (with_reducible repeat (first | refine blk_drewN ?_ _ | refine blk_drew ?_ | refine blk_alloc ?_ _)); exact BK223.out) hb); have n7_ := Aside0.mk (below_step (by repeat (first | (with_reducible first | exact HB.out | apply below_alloc | apply pw_below_drewN | apply below_drew1 | refine below_set ?_ GE218.out | refine below_set ?_ GE223.out) | exact HB.out)) hb); clear HO_12; clear HO_29; clear HO_219000; clear HL222_0; clear BK218; clear HR222_0; clear BK223; clear HB; have HO_12 := n0_; have HO_29 := n1_; have HO_219000 := n2_; have HL222_0 := n3_; have BK218 := n4_; have HR222_0 := n5_; have BK223 := n6_; have HB := n7_; clear n0_ n1_ n2_ n3_ n4_ n5_ n6_ n7_; (try clear hb); (try clear hb2); (try clear hk); (try clear hi)))
       (try simp only [Act.put, List.setIfInBounds_toArray, List.set_cons_zero, List.set_cons_succ])
       go_cut [62] (fun v62 wc => ∃ (kq : Nat) (x62_20 : Bool), v62 = .bool x62_20 ∧ Aside0 (spec_nuThose.j1 kq a1 a2 a3 x12_1 t227 t219 (t219.length : Int) x31_1 x62_20 t213 t216 = some (r1, r2)) ∧ Aside0 (kq ≤ k1) ∧ Aside0 (Kd.R Kd.string 9 wc w.heap.size (fun k_ => some k_ ≠ ((.slice Ao10 t213.length co10) : Value).ownBlock) u12 x12_1) ∧ Aside0 (Kd.N k31 31 wc w.heap.size (fun k_ => some k_ ≠ (u12 : Value).ownBlock ∧ k_ ≠ gb218) (.slice (some ad222) t219.length co15) t219) ∧ Aside0 (Kd.R Kd.string 9 wc w.heap.size (fun k_ => some k_ ≠ (u12 : Value).ownBlock) (.slice Ao10 t213.length co10) t213) ∧ Aside0 (wc.heap[gb218]? = some (.cells #[(.slice Ao10 t213.length co10), .bool t216] 31 (0, 0))) ∧ Aside0 (Kd.C Kd.string wc A222_0 ((rd_T31 t219 x31_1).f0).length ((rd_T31 t219 x31_1).f0)) ∧ Aside0 (Below w.heap.size w wc))
       case first =>
        have H := HC21.out
        clear HC21
        by_cases c29 : t224 = a1
        ·rw [if_pos c29] at H
         have c29b0 : (t224 == a1) = true := beq_iff_eq.mpr c29
         have c29b1 : (t224 != a1) = false := bne_eq_false_iff_eq.mpr c29
         clear c29
         (first | rw [c29b0] | (simp only [i64_w, i32_w]; rw [c29b0]) | skip)
         by_cases c30 : t225 = a2
         ·rw [if_pos c30] at H
          have c30b0 : (t225 == a2) = true := beq_iff_eq.mpr c30
          have c30b1 : (t225 != a2) = false := bne_eq_false_iff_eq.mpr c30
          clear c30
          replace H := Option.bind_eq_some_iff.mp H
          obtain ⟨t228, A310, H⟩ := H
          replace H : (if (t228 != a3) = true then (spec_nuThose.j1 k1 a1 a2 a3 x12_1 t227 t219 (t219.length : Int) x31_1 true t213 t216) else ((spec_l1HasS.f k1 x12_1 t227).bind fun t229 => (spec_nuThose.j1 k1 a1 a2 a3 x12_1 t227 t219 (t219.length : Int) x31_1 t229 t213 t216))) = some (r1, r2) := H
          have A31 := Aside0.mk A310
          clear A310
          by_cases c32 : (t228 != a3) = true
          ·rw [if_pos c32] at H
           have c32b0 : (t228 != a3) = true := c32
           (try (have c32b1 : decide (t228 = a3) = false := by simpa using c32))
           (try (have c32b2 : (t228 == a3) = false := by simpa using c32))
           (try (have c32b3 : ¬ (t228 = a3) := by simpa using c32))
           clear c32
           have H' := Aside0.mk H
           clear H
           have hnb33 := NB223_218.out
           have hnc33 := NB218_223.out
           have hcz34_0 : w28.cell? ⟨gb223, 0, none⟩ = some (.slice A222_0 ((rd_T31 t219 x31_1).f0).length c222_0) := (blk_cell BK223.out 0).trans rfl
           have hcz34_1 : w28.cell? ⟨gb223, 1, none⟩ = some (.bool ((rd_T31 t219 x31_1).f1)) := (blk_cell BK223.out 1).trans rfl
           have hfz34_0 := blk_frozen BK223.out 0
           have hfz34_1 := blk_frozen BK223.out 1
           go_wp2_with (first | (go_at_call 25; (with_reducible refine (spec_nuTrue.calls k1 _ _ ((rd_T31 t219 x31_1).f0) ((rd_T31 t219 x31_1).f1) t228 _ ?side1 ?side2 A31.out).mono ?_); (case side1 => repeat (first | exact (by repeat (first | (with_reducible exact HR222_0.out) | (with_reducible refine Kd.C_alloc ?_ _) | (with_reducible refine Kd.C_drewN ?_ _) | (with_reducible refine Kd.C_drew ?_) | exact HR222_0.out)) | (with_reducible refine Kd.C_alloc ?_ _) | (with_reducible refine Kd.C_drewN ?_ _) | (with_reducible refine Kd.C_drew ?_))); (case side2 => exact HC222_0.out); rintro e w35 ⟨rfl, hb⟩; have n0_ := Aside0.mk (Kd.R_below (by (with_reducible repeat (first | apply Kd.R_alloc | apply Kd.R_drewN | apply Kd.R_drew)); exact HO_12.out) hb); have n1_ := Aside0.mk (Kd.N_below (by (with_reducible repeat (first | apply Kd.N_alloc | apply Kd.N_drewN | apply Kd.N_drew)); exact HO_29.out) hb); have n2_ := Aside0.mk (Kd.R_below (by (with_reducible repeat (first | apply Kd.R_alloc | apply Kd.R_drewN | apply Kd.R_drew)); exact HO_219000.out) hb); have n3_ := Aside0.mk (Kd.V_below (by (with_reducible repeat (first | apply Kd.V_alloc | apply Kd.V_drewN | apply Kd.V_drew)); exact HL222_0.out) hb); have n4_ := Aside0.mk (blk_below (g := gb218) (o := .cells #[.slice Ao10 t213.length co10, .bool t216] 31 (0, 0)) (by (with_reducible repeat (first | refine blk_drewN ?_ _ | refine blk_drew ?_ | refine blk_alloc ?_ _)); exact BK218.out) hb); have n5_ := Aside0.mk (Kd.C_below (by repeat (first | (with_reducible exact HR222_0.out) | (with_reducible refine Kd.C_alloc ?_ _) | (with_reducible refine Kd.C_drewN ?_ _) | (with_reducible refine Kd.C_drew ?_) | exact HR222_0.out)) hb); have n6_ := Aside0.mk (blk_below (g := gb223) (o := .cells #[.slice A222_0 ((rd_T31 t219 x31_1).f0).length c222_0, .bool ((rd_T31 t219 x31_1).f1)] 31 (0, 0)) (by (with_reducible repeat (first | refine blk_drewN ?_ _ | refine blk_drew ?_ | refine blk_alloc ?_ _)); exact BK223.out) hb); have n7_ := Aside0.mk (below_step (by repeat (first | (with_reducible first | exact HB.out | apply below_alloc | apply pw_below_drewN | apply below_drew1 | refine below_set ?_ GE218.out | refine below_set ?_ GE223.out) | exact HB.out)) hb); clear HO_12; clear HO_29; clear HO_219000; clear HL222_0; clear BK218; clear HR222_0; clear BK223; clear HB; have HO_12 := n0_; have HO_29 := n1_; have HO_219000 := n2_; have HL222_0 := n3_; have BK218 := n4_; have HR222_0 := n5_; have BK223 := n6_; have HB := n7_; clear n0_ n1_ n2_ n3_ n4_ n5_ n6_ n7_; (try clear hb); (try clear hb2); (try clear hk); (try clear hi)))
           go_meet
           case rel => exact ⟨_, (true), (by first | rfl | (simp; done) | (simp [*]; done)), H', ⟨by have := HK1.out; first | omega | exact Nat.le_refl _⟩, ⟨by (with_reducible repeat (first | apply Kd.R_alloc | apply Kd.R_drewN | apply Kd.R_drew)); exact HO_12.out⟩, ⟨by (with_reducible repeat (first | apply Kd.N_alloc | apply Kd.N_drewN | apply Kd.N_drew)); exact Kd.N_mono HO_29.out (fun _ hk => ⟨hk.1.1, hk.1.2⟩)⟩, ⟨by (with_reducible repeat (first | apply Kd.R_alloc | apply Kd.R_drewN | apply Kd.R_drew)); exact HO_219000.out⟩, ⟨by (with_reducible repeat (first | refine blk_drewN ?_ _ | refine blk_drew ?_ | refine blk_alloc ?_ _)); exact BK218.out⟩, ⟨by repeat (first | (with_reducible exact HR222_0.out) | (with_reducible refine Kd.C_alloc ?_ _) | (with_reducible refine Kd.C_drewN ?_ _) | (with_reducible refine Kd.C_drew ?_) | exact HR222_0.out)⟩, ⟨by repeat (first | (with_reducible first | exact HB.out | apply below_alloc | apply pw_below_drewN | apply below_drew1 | refine below_set ?_ GE218.out | refine below_set ?_ GE223.out) | exact HB.out)⟩⟩
          ·rw [if_neg c32] at H
           have c32b0 : (t228 != a3) = false := by simpa using c32
           (try (have c32b1 : decide (t228 = a3) = true := by simpa using c32))
           (try (have c32b2 : (t228 == a3) = true := by simpa using c32))
           clear c32
           replace H := Option.bind_eq_some_iff.mp H
           obtain ⟨t229, A360, H⟩ := H
           replace H : (spec_nuThose.j1 k1 a1 a2 a3 x12_1 t227 t219 (t219.length : Int) x31_1 t229 t213 t216) = some (r1, r2) := H
           have A36 := Aside0.mk A360
           clear A360
           have H' := Aside0.mk H
           clear H
           have hnb37 := NB223_218.out
           have hnc37 := NB218_223.out
           have hcz38_0 : w28.cell? ⟨gb223, 0, none⟩ = some (.slice A222_0 ((rd_T31 t219 x31_1).f0).length c222_0) := (blk_cell BK223.out 0).trans rfl
           have hcz38_1 : w28.cell? ⟨gb223, 1, none⟩ = some (.bool ((rd_T31 t219 x31_1).f1)) := (blk_cell BK223.out 1).trans rfl
           have hfz38_0 := blk_frozen BK223.out 0
           have hfz38_1 := blk_frozen BK223.out 1
           go_wp2_with (first | (go_at_call 25; (with_reducible refine (spec_nuTrue.calls k1 _ _ ((rd_T31 t219 x31_1).f0) ((rd_T31 t219 x31_1).f1) t228 _ ?side1 ?side2 A31.out).mono ?_); (case side1 => repeat (first | exact (by repeat (first | (with_reducible exact HR222_0.out) | (with_reducible refine Kd.C_alloc ?_ _) | (with_reducible refine Kd.C_drewN ?_ _) | (with_reducible refine Kd.C_drew ?_) | exact HR222_0.out)) | (with_reducible refine Kd.C_alloc ?_ _) | (with_reducible refine Kd.C_drewN ?_ _) | (with_reducible refine Kd.C_drew ?_))); (case side2 => exact HC222_0.out); rintro e w39 ⟨rfl, hb⟩; have n0_ := Aside0.mk (Kd.R_below (by (with_reducible repeat (first | apply Kd.R_alloc | apply Kd.R_drewN | apply Kd.R_drew)); exact HO_12.out) hb); have n1_ := Aside0.mk (Kd.N_below (by (with_reducible repeat (first | apply Kd.N_alloc | apply Kd.N_drewN | apply Kd.N_drew)); exact HO_29.out) hb); have n2_ := Aside0.mk (Kd.R_below (by (with_reducible repeat (first | apply Kd.R_alloc | apply Kd.R_drewN | apply Kd.R_drew)); exact HO_219000.out) hb); have n3_ := Aside0.mk (Kd.V_below (by (with_reducible repeat (first | apply Kd.V_alloc | apply Kd.V_drewN | apply Kd.V_drew)); exact HL222_0.out) hb); have n4_ := Aside0.mk (blk_below (g := gb218) (o := .cells #[.slice Ao10 t213.length co10, .bool t216] 31 (0, 0)) (by (with_reducible repeat (first | refine blk_drewN ?_ _ | refine blk_drew ?_ | refine blk_alloc ?_ _)); exact BK218.out) hb); have n5_ := Aside0.mk (Kd.C_below (by repeat (first | (with_reducible exact HR222_0.out) | (with_reducible refine Kd.C_alloc ?_ _) | (with_reducible refine Kd.C_drewN ?_ _) | (with_reducible refine Kd.C_drew ?_) | exact HR222_0.out)) hb); have n6_ := Aside0.mk (blk_below (g := gb223) (o := .cells #[.slice A222_0 ((rd_T31 t219 x31_1).f0).length c222_0, .bool ((rd_T31 t219 x31_1).f1)] 31 (0, 0)) (by (with_reducible repeat (first | refine blk_drewN ?_ _ | refine blk_drew ?_ | refine blk_alloc ?_ _)); exact BK223.out) hb); have n7_ := Aside0.mk (below_step (by repeat (first | (with_reducible first | exact HB.out | apply below_alloc | apply pw_below_drewN | apply below_drew1 | refine below_set ?_ GE218.out | refine below_set ?_ GE223.out) | exact HB.out)) hb); clear HO_12; clear HO_29; clear HO_219000; clear HL222_0; clear BK218; clear HR222_0; clear BK223; clear HB; have HO_12 := n0_; have HO_29 := n1_; have HO_219000 := n2_; have HL222_0 := n3_; have BK218 := n4_; have HR222_0 := n5_; have BK223 := n6_; have HB := n7_; clear n0_ n1_ n2_ n3_ n4_ n5_ n6_ n7_; (try clear hb); (try clear hb2); (try clear hk); (try clear hi); obtain ⟨Ao40, co40, eo40⟩ := Kd.R_slice HO_12.out; subst eo40) | (go_at_call 26; (with_reducible refine (spec_l1HasS.calls k1 _ _ x12_1 t227 t229 _ ?side1 ?side2 A36.out).mono ?_); (case side1 => repeat (first | exact (Kd.R_reads' HO_12.out).2.2 | (with_reducible refine Kd.C_alloc ?_ _) | (with_reducible refine Kd.C_drewN ?_ _) | (with_reducible refine Kd.C_drew ?_))); (case side2 => exact (Kd.R_reads' HO_12.out).2.1); rintro e w' ⟨rfl, ⟨nd, rfl⟩⟩))
           go_meet
           case rel => exact ⟨_, (t229), (by first | rfl | (simp; done) | (simp [*]; done)), H', ⟨by have := HK1.out; first | omega | exact Nat.le_refl _⟩, ⟨by (with_reducible repeat (first | apply Kd.R_alloc | apply Kd.R_drewN | apply Kd.R_drew)); exact HO_12.out⟩, ⟨by (with_reducible repeat (first | apply Kd.N_alloc | apply Kd.N_drewN | apply Kd.N_drew)); exact Kd.N_mono HO_29.out (fun _ hk => ⟨hk.1.1, hk.1.2⟩)⟩, ⟨by (with_reducible repeat (first | apply Kd.R_alloc | apply Kd.R_drewN | apply Kd.R_drew)); exact HO_219000.out⟩, ⟨by (with_reducible repeat (first | refine blk_drewN ?_ _ | refine blk_drew ?_ | refine blk_alloc ?_ _)); exact BK218.out⟩, ⟨by repeat (first | (with_reducible exact HR222_0.out) | (with_reducible refine Kd.C_alloc ?_ _) | (with_reducible refine Kd.C_drewN ?_ _) | (with_reducible refine Kd.C_drew ?_) | exact HR222_0.out)⟩, ⟨by repeat (first | (with_reducible first | exact HB.out | apply below_alloc | apply pw_below_drewN | apply below_drew1 | refine below_set ?_ GE218.out | refine below_set ?_ GE223.out) | exact HB.out)⟩⟩
         ·rw [if_neg c30] at H
          have c30b0 : (t225 == a2) = false := beq_eq_false_iff_ne.mpr c30
          have c30b1 : (t225 != a2) = true := bne_iff_ne.mpr c30
          have H' := Aside0.mk H
          clear H
          go_wp2
          go_meet
          case rel => exact ⟨_, (true), (by first | rfl | (simp; done) | (simp [*]; done)), H', ⟨by have := HK1.out; first | omega | exact Nat.le_refl _⟩, ⟨by (with_reducible repeat (first | apply Kd.R_alloc | apply Kd.R_drewN | apply Kd.R_drew)); exact HO_12.out⟩, ⟨by (with_reducible repeat (first | apply Kd.N_alloc | apply Kd.N_drewN | apply Kd.N_drew)); exact Kd.N_mono HO_29.out (fun _ hk => ⟨hk.1.1, hk.1.2⟩)⟩, ⟨by (with_reducible repeat (first | apply Kd.R_alloc | apply Kd.R_drewN | apply Kd.R_drew)); exact HO_219000.out⟩, ⟨by (with_reducible repeat (first | refine blk_drewN ?_ _ | refine blk_drew ?_ | refine blk_alloc ?_ _)); exact BK218.out⟩, ⟨by repeat (first | (with_reducible exact HR222_0.out) | (with_reducible refine Kd.C_alloc ?_ _) | (with_reducible refine Kd.C_drewN ?_ _) | (with_reducible refine Kd.C_drew ?_) | exact HR222_0.out)⟩, ⟨by repeat (first | (with_reducible first | exact HB.out | apply below_alloc | apply pw_below_drewN | apply below_drew1 | refine below_set ?_ GE218.out | refine below_set ?_ GE223.out) | exact HB.out)⟩⟩
        ·rw [if_neg c29] at H
         have c29b0 : (t224 == a1) = false := beq_eq_false_iff_ne.mpr c29
         have c29b1 : (t224 != a1) = true := bne_iff_ne.mpr c29
         (first | rw [c29b0] | (simp only [i64_w, i32_w]; rw [c29b0]) | skip)
         have H' := Aside0.mk H
         clear H
         go_wp2
         go_meet
         case rel => exact ⟨_, (true), (by first | rfl | (simp; done) | (simp [*]; done)), H', ⟨by have := HK1.out; first | omega | exact Nat.le_refl _⟩, ⟨by (with_reducible repeat (first | apply Kd.R_alloc | apply Kd.R_drewN | apply Kd.R_drew)); exact HO_12.out⟩, ⟨by (with_reducible repeat (first | apply Kd.N_alloc | apply Kd.N_drewN | apply Kd.N_drew)); exact Kd.N_mono HO_29.out (fun _ hk => ⟨hk.1.1, hk.1.2⟩)⟩, ⟨by (with_reducible repeat (first | apply Kd.R_alloc | apply Kd.R_drewN | apply Kd.R_drew)); exact HO_219000.out⟩, ⟨by (with_reducible repeat (first | refine blk_drewN ?_ _ | refine blk_drew ?_ | refine blk_alloc ?_ _)); exact BK218.out⟩, ⟨by repeat (first | (with_reducible exact HR222_0.out) | (with_reducible refine Kd.C_alloc ?_ _) | (with_reducible refine Kd.C_drewN ?_ _) | (with_reducible refine Kd.C_drew ?_) | exact HR222_0.out)⟩, ⟨by repeat (first | (with_reducible first | exact HB.out | apply below_alloc | apply pw_below_drewN | apply below_drew1 | refine below_set ?_ GE218.out | refine below_set ?_ GE223.out) | exact HB.out)⟩⟩
       case rest =>
        clear HC21
        try clear c1
        try clear c2
        try clear p2
        try clear q2
        try clear hx2
        try clear c3
        try clear c6
        try clear c16
        try clear c16b0
        try clear c17
        try clear c17b0
        try clear c18
        try clear c18b0
        try clear c21
        try clear c22
        try clear p22
        try clear q22
        try clear hx22
        try clear c23
        try clear c24
        try clear c29
        try clear c29b0
        try clear c29b1
        try clear c30
        try clear c30b0
        try clear c30b1
        try clear c32
        try clear c32b0
        try clear c32b1
        try clear c32b2
        try clear c33
        try clear c37
        try clear hcz11_0
        try clear hcz11_1
        try clear hcz13_0
        try clear hcz13_1
        try clear hcz24_0
        try clear hcz24_1
        try clear hcz25_0
        try clear hcz25_1
        try clear hcz27_0
        try clear hcz27_1
        try clear hcz34_0
        try clear hcz34_1
        try clear hcz38_0
        try clear hcz38_1
        try clear hfz11_0
        try clear hfz11_1
        try clear hfz13_0
        try clear hfz13_1
        try clear hfz24_0
        try clear hfz24_1
        try clear hfz25_0
        try clear hfz25_1
        try clear hfz27_0
        try clear hfz27_1
        try clear hfz34_0
        try clear hfz34_1
        try clear hfz38_0
        try clear hfz38_1
        try clear hx222_0
        try clear hx222_1
        try clear p2
        try clear p222
        try clear q222
        obtain ⟨kq, x62_20, rfl, HA, HJ20, HO_12, HO_29, HO_219000, BK218, HR222_0, HB⟩ := hcut
        cases kq with
        | zero => exact absurd HA.out (by simp [spec_nuThose.j1])
        | succ kj20 =>
         have H := HA.out
         clear HA
         simp only [spec_nuThose.j1] at H
         by_cases c41 : x62_20 = true
         ·subst c41
          have H1 : (spec_nuThose.l0 kj20 a1 a2 a3 x12_1 t219 (t219.length : Int) (wrap64 (x31_1 + 1)) t213 t216) = some (r1, r2) := by rw [if_pos rfl] at H; exact H
          clear H
          have H := H1
          clear H1
          have H' := Aside0.mk H
          clear H
          go_wp2
          go_roundg kj20
          case measure => have := HK1.out; have := HJ20.out; omega
          case rel => exact ⟨(x12_1), (wrap64 (x31_1 + 1)), (by first | rfl | (simp; done) | (simp [*]; done)), H', ⟨by have := HK1.out; have := HJ20.out; omega⟩, ⟨by (with_reducible repeat (first | apply Kd.R_alloc | apply Kd.R_drewN | apply Kd.R_drew)); exact HO_12.out⟩, ⟨by (with_reducible repeat (first | apply Kd.N_alloc | apply Kd.N_drewN | apply Kd.N_drew)); exact HO_29.out⟩, ⟨by (with_reducible repeat (first | apply Kd.R_alloc | apply Kd.R_drewN | apply Kd.R_drew)); exact HO_219000.out⟩, ⟨by (with_reducible repeat (first | refine blk_drewN ?_ _ | refine blk_drew ?_ | refine blk_alloc ?_ _)); exact BK218.out⟩, ⟨by repeat (first | (with_reducible first | exact HB.out | apply below_alloc | apply pw_below_drewN | apply below_drew1 | refine below_set ?_ GE218.out) | exact HB.out)⟩⟩
         ·replace c41 := Bool.eq_false_iff.mpr c41
          subst c41
          have H1 : (spec_nuThose.l1 kj20 a1 a2 a3 x12_1 t227 (x12_1.length : Int) t219 (t219.length : Int) x31_1 t213 t216) = some (r1, r2) := by rw [if_neg (show ¬ (false = true) by decide)] at H; exact H
          clear H
          have H := H1
          clear H1
          have H' := Aside0.mk H
          clear H
          obtain ⟨Ao42, co42, eo42⟩ := Kd.R_slice HO_12.out
          subst eo42
          go_wp2
          go_loopg [19] kj20 (fun kq v19 w' => ∃ (x19_3 : Int), v19 = .int .i64 x19_3 ∧ Aside0 (spec_nuThose.l1 kq a1 a2 a3 x12_1 t227 x19_3 t219 (t219.length : Int) x31_1 t213 t216 = some (r1, r2)) ∧ Aside0 (kq ≤ kj20) ∧ Aside0 (Kd.R Kd.string 9 w' w.heap.size (fun k_ => some k_ ≠ ((.slice Ao10 t213.length co10) : Value).ownBlock) (.slice Ao42 x12_1.length co42) x12_1) ∧ Aside0 (Kd.N k31 31 w' w.heap.size (fun k_ => some k_ ≠ ((.slice Ao42 x12_1.length co42) : Value).ownBlock ∧ k_ ≠ gb218) (.slice (some ad222) t219.length co15) t219) ∧ Aside0 (Kd.R Kd.string 9 w' w.heap.size (fun k_ => some k_ ≠ ((.slice Ao42 x12_1.length co42) : Value).ownBlock) (.slice Ao10 t213.length co10) t213) ∧ Aside0 (w'.heap[gb218]? = some (.cells #[(.slice Ao10 t213.length co10), .bool t216] 31 (0, 0))) ∧ Aside0 (Kd.C Kd.string w' A222_0 ((rd_T31 t219 x31_1).f0).length ((rd_T31 t219 x31_1).f0)) ∧ Aside0 (Below w.heap.size w w'))
          case atStart => exact ⟨((x12_1.length : Int)), (by first | rfl | (simp; done) | (simp [*]; done)), H', ⟨Nat.le_refl _⟩, ⟨by (with_reducible repeat (first | apply Kd.R_alloc | apply Kd.R_drewN | apply Kd.R_drew)); exact HO_12.out⟩, ⟨by (with_reducible repeat (first | apply Kd.N_alloc | apply Kd.N_drewN | apply Kd.N_drew)); exact HO_29.out⟩, ⟨by (with_reducible repeat (first | apply Kd.R_alloc | apply Kd.R_drewN | apply Kd.R_drew)); exact HO_219000.out⟩, ⟨by (with_reducible repeat (first | refine blk_drewN ?_ _ | refine blk_drew ?_ | refine blk_alloc ?_ _)); exact BK218.out⟩, ⟨by repeat (first | (with_reducible exact HR222_0.out) | (with_reducible refine Kd.C_alloc ?_ _) | (with_reducible refine Kd.C_drewN ?_ _) | (with_reducible refine Kd.C_drew ?_) | exact HR222_0.out)⟩, ⟨by repeat (first | (with_reducible first | exact HB.out | apply below_alloc | apply pw_below_drewN | apply below_drew1 | refine below_set ?_ GE218.out) | exact HB.out)⟩⟩
          case round =>
           clear H'
           try clear c1
           try clear c2
           try clear p2
           try clear q2
           try clear hx2
           try clear c3
           try clear c4
           try clear c6
           try clear p6
           try clear c16
           try clear c16b0
           try clear c17
           try clear c17b0
           try clear c18
           try clear c18b0
           try clear c21
           try clear c22
           try clear p22
           try clear q22
           try clear hx22
           try clear c23
           try clear c24
           try clear c29
           try clear c29b0
           try clear c29b1
           try clear c30
           try clear c30b0
           try clear c30b1
           try clear c32
           try clear c32b0
           try clear c32b1
           try clear c32b2
           try clear c33
           try clear c37
           try clear c41
           try clear hcz11_0
           try clear hcz11_1
           try clear hcz13_0
           try clear hcz13_1
           try clear hcz24_0
           try clear hcz24_1
           try clear hcz25_0
           try clear hcz25_1
           try clear hcz27_0
           try clear hcz27_1
           try clear hcz34_0
           try clear hcz34_1
           try clear hcz38_0
           try clear hcz38_1
           try clear hfz11_0
           try clear hfz11_1
           try clear hfz13_0
           try clear hfz13_1
           try clear hfz24_0
           try clear hfz24_1
           try clear hfz25_0
           try clear hfz25_1
           try clear hfz27_0
           try clear hfz27_1
           try clear hfz34_0
           try clear hfz34_1
           try clear hfz38_0
           try clear hfz38_1
           try clear hx222_0
           try clear hx222_1
           try clear p2
           try clear p22
           try clear p222
           try clear q2
           try clear q22
           try clear q222
           obtain ⟨x19_3, rfl, HA, HK3, HO_12, HO_29, HO_219000, BK218, HR222_0, HB⟩ := hrel
           cases gk with
           | zero => exact absurd HA.out (by simp [spec_nuThose.l1])
           | succ k3 =>
            have H := HA.out
            clear HA
            simp only [spec_nuThose.l1] at H
            by_cases c43 : x19_3 > 0
            ·rw [if_pos c43] at H
             have c43b0 : decide (0 < x19_3) = true := decide_eq_true c43
             clear c43
             obtain ⟨ji44, hji44⟩ : ∃ j_ : Int, (wrap64 (x19_3 - 1)) = j_ := ⟨_, rfl⟩
             replace H : (if 0 ≤ (ji44) then (if (ji44) < (x12_1.length : Int) then (if (Op.bytesLess t227.toList ((rdOf ByteArray.empty x12_1 (ji44)).toList)) = true then (spec_nuThose.l1 k3 a1 a2 a3 x12_1 t227 ji44 t219 (t219.length : Int) x31_1 t213 t216) else ((some (([] : List ByteArray) : List ByteArray)).bind fun y231 => (if 0 ≤ x19_3 then (if x19_3 ≤ (x12_1.length : Int) then ((some (x12_1.take (x19_3 : Int).toNat : List ByteArray)).bind fun y234 => (if y231.length + y234.length < 8796093022208 then ((some (y231 ++ y234 : List ByteArray)).bind fun y239 => (if y239.length < 8796093022208 then ((some (y239 ++ [t227] : List ByteArray)).bind fun y242 => ((some (x12_1.drop (x19_3 : Int).toNat : List ByteArray)).bind fun y245 => (if y242.length + y245.length < 8796093022208 then (spec_nuThose.l0 k3 a1 a2 a3 (y242 ++ y245) t219 (t219.length : Int) (wrap64 (x31_1 + 1)) t213 t216) else (none)))) else (none))) else (none))) else (none)) else (none)))) else (none)) else (none)) = some (r1, r2) := by first | (rw [hji44] at H; exact H) | (simp only [hji44] at H ⊢; exact H)
             have hji44w : (IntKind.i64.wrap (x19_3 - 1)) = ji44 := (i64_w _).trans hji44
             by_cases c45 : 0 ≤ (ji44)
             ·rw [if_pos c45] at H
              have c45b0 : decide (0 ≤ (ji44)) = true := decide_eq_true c45
              clear c45
              by_cases c46 : (ji44) < (x12_1.length : Int)
              ·rw [if_pos c46] at H
               have c46b0 : decide ((ji44) < (x12_1.length : Int)) = true := decide_eq_true c46
               clear c46
               by_cases c47 : (Op.bytesLess t227.toList ((rdOf ByteArray.empty x12_1 (ji44)).toList)) = true
               ·rw [if_pos c47] at H
                have c47b0 : (Op.bytesLess t227.toList ((rdOf ByteArray.empty x12_1 (ji44)).toList)) = true := c47
                have gt_c47 := fun w_ => run_gtr (P := Tryz.prog) 9 _ _ w_ c47b0
                clear c47
                have H' := Aside0.mk H
                clear H
                have p230 : 0 ≤ ((ji44) : Int) := of_decide_eq_true (by first | (with_reducible assumption) | assumption)
                have q230 : (ji44) < (x12_1.length : Int) := of_decide_eq_true (by first | (with_reducible assumption) | assumption)
                obtain ⟨ad230, e230, hx230_0⟩ := Kd.at_string (Kd.R_reads' HO_12.out).2.2 (ji44) p230 q230
                cases e230
                replace p230 := eq_true p230
                replace q230 := eq_true q230
                go_wp2
                go_roundg k3
                case measure => have := HK1.out; have := HJ20.out; have := HK3.out; omega
                case rel => exact ⟨(ji44), (by first | rfl | (simp; done) | (simp only [← hji44] <;> (first | rfl | simp)) | (simp [*]; done)), H', ⟨by have := HK1.out; have := HJ20.out; have := HK3.out; omega⟩, ⟨by (with_reducible repeat (first | apply Kd.R_alloc | apply Kd.R_drewN | apply Kd.R_drew)); exact HO_12.out⟩, ⟨by (with_reducible repeat (first | apply Kd.N_alloc | apply Kd.N_drewN | apply Kd.N_drew)); exact HO_29.out⟩, ⟨by (with_reducible repeat (first | apply Kd.R_alloc | apply Kd.R_drewN | apply Kd.R_drew)); exact HO_219000.out⟩, ⟨by (with_reducible repeat (first | refine blk_drewN ?_ _ | refine blk_drew ?_ | refine blk_alloc ?_ _)); exact BK218.out⟩, ⟨by repeat (first | (with_reducible exact HR222_0.out) | (with_reducible refine Kd.C_alloc ?_ _) | (with_reducible refine Kd.C_drewN ?_ _) | (with_reducible refine Kd.C_drew ?_) | exact HR222_0.out)⟩, ⟨by repeat (first | (with_reducible first | exact HB.out | apply below_alloc | apply pw_below_drewN | apply below_drew1 | refine below_set ?_ GE218.out) | exact HB.out)⟩⟩
               ·rw [if_neg c47] at H
                have c47b0 : (Op.bytesLess t227.toList ((rdOf ByteArray.empty x12_1 (ji44)).toList)) = false := by simpa using c47
                have gt_c47 := fun w_ => run_gtr (P := Tryz.prog) 9 _ _ w_ c47b0
                clear c47
                obtain ⟨y231, hy231⟩ : ∃ y_ : List ByteArray, y_ = (([] : List ByteArray)) := ⟨_, rfl⟩
                replace H : (if 0 ≤ x19_3 then (if x19_3 ≤ (x12_1.length : Int) then ((some (x12_1.take (x19_3 : Int).toNat : List ByteArray)).bind fun y234 => (if y231.length + y234.length < 8796093022208 then ((some (y231 ++ y234 : List ByteArray)).bind fun y239 => (if y239.length < 8796093022208 then ((some (y239 ++ [t227] : List ByteArray)).bind fun y242 => ((some (x12_1.drop (x19_3 : Int).toNat : List ByteArray)).bind fun y245 => (if y242.length + y245.length < 8796093022208 then (spec_nuThose.l0 k3 a1 a2 a3 (y242 ++ y245) t219 (t219.length : Int) (wrap64 (x31_1 + 1)) t213 t216) else (none)))) else (none))) else (none))) else (none)) else (none)) = some (r1, r2) := by first | (rw [hy231]; with_reducible exact H) | (have H2_ := (Option.bind_some _ _).symm.trans H; rw [hy231]; with_reducible exact H2_) | (have H2_ := (Option.bind_some _ _).symm.trans H; with_reducible exact H2_) | with_reducible exact H | (rw [hy231]; exact H) | exact H
                have Ny231 := Aside0.mk hy231
                clear hy231
                by_cases c48 : 0 ≤ x19_3
                ·rw [if_pos c48] at H
                 have c48b0 := eq_true c48
                 have c48b1 : decide (0 ≤ x19_3) = true := decide_eq_true c48
                 clear c48
                 by_cases c49 : x19_3 ≤ (x12_1.length : Int)
                 ·rw [if_pos c49] at H
                  have c49b0 := eq_true c49
                  have c49b1 : decide (x19_3 ≤ (x12_1.length : Int)) = true := decide_eq_true c49
                  clear c49
                  obtain ⟨y234, hy234⟩ : ∃ y_ : List ByteArray, y_ = (x12_1.take (x19_3 : Int).toNat) := ⟨_, rfl⟩
                  replace H : (if y231.length + y234.length < 8796093022208 then ((some (y231 ++ y234 : List ByteArray)).bind fun y239 => (if y239.length < 8796093022208 then ((some (y239 ++ [t227] : List ByteArray)).bind fun y242 => ((some (x12_1.drop (x19_3 : Int).toNat : List ByteArray)).bind fun y245 => (if y242.length + y245.length < 8796093022208 then (spec_nuThose.l0 k3 a1 a2 a3 (y242 ++ y245) t219 (t219.length : Int) (wrap64 (x31_1 + 1)) t213 t216) else (none)))) else (none))) else (none)) = some (r1, r2) := by first | (rw [hy234]; with_reducible exact H) | (have H2_ := (Option.bind_some _ _).symm.trans H; rw [hy234]; with_reducible exact H2_) | (have H2_ := (Option.bind_some _ _).symm.trans H; with_reducible exact H2_) | with_reducible exact H | (rw [hy234]; exact H) | exact H
                  have Ny234 := Aside0.mk hy234
                  clear hy234
                  by_cases c50 : y231.length + y234.length < 8796093022208
                  ·rw [if_pos c50] at H
                   have LMc50 := Aside0.mk c50
                   clear c50
                   obtain ⟨y239, hy239⟩ : ∃ y_ : List ByteArray, y_ = (y231 ++ y234) := ⟨_, rfl⟩
                   replace H : (if y239.length < 8796093022208 then ((some (y239 ++ [t227] : List ByteArray)).bind fun y242 => ((some (x12_1.drop (x19_3 : Int).toNat : List ByteArray)).bind fun y245 => (if y242.length + y245.length < 8796093022208 then (spec_nuThose.l0 k3 a1 a2 a3 (y242 ++ y245) t219 (t219.length : Int) (wrap64 (x31_1 + 1)) t213 t216) else (none)))) else (none)) = some (r1, r2) := by first | (rw [hy239]; with_reducible exact H) | (have H2_ := (Option.bind_some _ _).symm.trans H; rw [hy239]; with_reducible exact H2_) | (have H2_ := (Option.bind_some _ _).symm.trans H; with_reducible exact H2_) | with_reducible exact H | (rw [hy239]; exact H) | exact H
                   have Ny239 := Aside0.mk hy239
                   clear hy239
                   by_cases c51 : y239.length < 8796093022208
                   ·rw [if_pos c51] at H
                    have LMc51 := Aside0.mk c51
                    clear c51
                    obtain ⟨y242, hy242⟩ : ∃ y_ : List ByteArray, y_ = (y239 ++ [t227]) := ⟨_, rfl⟩
                    replace H : ((some (x12_1.drop (x19_3 : Int).toNat : List ByteArray)).bind fun y245 => (if y242.length + y245.length < 8796093022208 then (spec_nuThose.l0 k3 a1 a2 a3 (y242 ++ y245) t219 (t219.length : Int) (wrap64 (x31_1 + 1)) t213 t216) else (none))) = some (r1, r2) := by first | (rw [hy242]; with_reducible exact H) | (have H2_ := (Option.bind_some _ _).symm.trans H; rw [hy242]; with_reducible exact H2_) | (have H2_ := (Option.bind_some _ _).symm.trans H; with_reducible exact H2_) | with_reducible exact H | (rw [hy242]; exact H) | exact H
                    have Ny242 := Aside0.mk hy242
                    clear hy242
                    have c52b0 := eq_true (of_decide_eq_true (by first | (with_reducible assumption) | assumption) : 0 ≤ x19_3)
                    have c53b0 := eq_true (of_decide_eq_true (by first | (with_reducible assumption) | assumption) : x19_3 ≤ (x12_1.length : Int))
                    obtain ⟨y245, hy245⟩ : ∃ y_ : List ByteArray, y_ = (x12_1.drop (x19_3 : Int).toNat) := ⟨_, rfl⟩
                    replace H : (if y242.length + y245.length < 8796093022208 then (spec_nuThose.l0 k3 a1 a2 a3 (y242 ++ y245) t219 (t219.length : Int) (wrap64 (x31_1 + 1)) t213 t216) else (none)) = some (r1, r2) := by first | (rw [hy245]; with_reducible exact H) | (have H2_ := (Option.bind_some _ _).symm.trans H; rw [hy245]; with_reducible exact H2_) | (have H2_ := (Option.bind_some _ _).symm.trans H; with_reducible exact H2_) | with_reducible exact H | (rw [hy245]; exact H) | exact H
                    have Ny245 := Aside0.mk hy245
                    clear hy245
                    by_cases c54 : y242.length + y245.length < 8796093022208
                    ·rw [if_pos c54] at H
                     have LMc54 := Aside0.mk c54
                     clear c54
                     obtain ⟨y250, hy250⟩ : ∃ y_ : List ByteArray, y_ = (y242 ++ y245) := ⟨_, rfl⟩
                     replace H : (spec_nuThose.l0 k3 a1 a2 a3 y250 t219 (t219.length : Int) (wrap64 (x31_1 + 1)) t213 t216) = some (r1, r2) := by first | (rw [hy250]; with_reducible exact H) | (have H2_ := (Option.bind_some _ _).symm.trans H; rw [hy250]; with_reducible exact H2_) | (have H2_ := (Option.bind_some _ _).symm.trans H; with_reducible exact H2_) | with_reducible exact H | (rw [hy250]; exact H) | exact H
                     have Ny250 := Aside0.mk hy250
                     clear hy250
                     have H' := Aside0.mk H
                     clear H
                     have p230 : 0 ≤ ((ji44) : Int) := of_decide_eq_true (by first | (with_reducible assumption) | assumption)
                     have q230 : (ji44) < (x12_1.length : Int) := of_decide_eq_true (by first | (with_reducible assumption) | assumption)
                     obtain ⟨ad230, e230, hx230_0⟩ := Kd.at_string (Kd.R_reads' HO_12.out).2.2 (ji44) p230 q230
                     cases e230
                     replace p230 := eq_true p230
                     replace q230 := eq_true q230
                     go_wp2_with (first | ((with_reducible refine gate_dst (N := 78) rfl ?_); refine Kd.R_lit Kd.string _ 9 ?hg (N := 78) ?hd (xs := ([] : List ByteArray)) (inner := []) (ok := fun _ => True) (okp := fun _ => True) ?hr ?hp (fun _ hk => hk) trivial (Below.refl _ _) (Nat.le_refl _) (by simp) ?_; (case hd => rfl); (case hg => rfl); (case hr => first | (go_simp; done) | (go_simp; rfl)); (case hp => exact (Reps.none _ _)); intro v232 w55 ho56 hb hg_ hnew_; clear hg_ hnew_; (first | rw [← Ny231.out] at ho56 | (simp only [Int.reduceToNat] at ho56; rw [← Ny231.out] at ho56)); have n0_ := Aside0.mk (Kd.R_elder' (by (with_reducible repeat (first | apply Kd.R_alloc | apply Kd.R_drewN | apply Kd.R_drew)); exact HO_12.out) (Kd.R_base ho56) hb); have n1_ := Aside0.mk (Kd.N_elder' (by (with_reducible repeat (first | apply Kd.N_alloc | apply Kd.N_drewN | apply Kd.N_drew)); exact HO_29.out) (Kd.R_base ho56) hb); have n2_ := Aside0.mk (Kd.R_elder' (by (with_reducible repeat (first | apply Kd.R_alloc | apply Kd.R_drewN | apply Kd.R_drew)); exact HO_219000.out) (Kd.R_base ho56) hb); have n3_ := Aside0.mk (Kd.R_lower (Kd.R_new' (Kd.R_new' ho56 (Kd.R_lt (by (with_reducible repeat (first | apply Kd.R_alloc | apply Kd.R_drewN | apply Kd.R_drew)); exact HO_12.out))) (Kd.R_lt (by (with_reducible repeat (first | apply Kd.R_alloc | apply Kd.R_drewN | apply Kd.R_drew)); exact HO_219000.out))) (below_size (by repeat (first | (with_reducible first | exact HB.out | apply below_alloc | apply pw_below_drewN | apply below_drew1 | refine below_set ?_ GE218.out) | exact HB.out)))); have n4_ := Aside0.mk (blk_below (g := gb218) (o := .cells #[.slice Ao10 t213.length co10, .bool t216] 31 (0, 0)) (by (with_reducible repeat (first | refine blk_drewN ?_ _ | refine blk_drew ?_ | refine blk_alloc ?_ _)); exact BK218.out) hb); have n5_ := Aside0.mk (Kd.C_below (by repeat (first | (with_reducible exact HR222_0.out) | (with_reducible refine Kd.C_alloc ?_ _) | (with_reducible refine Kd.C_drewN ?_ _) | (with_reducible refine Kd.C_drew ?_) | exact HR222_0.out)) hb); have n6_ := Aside0.mk (below_step (by repeat (first | (with_reducible first | exact HB.out | apply below_alloc | apply pw_below_drewN | apply below_drew1 | refine below_set ?_ GE218.out) | exact HB.out)) hb); clear HO_12; clear HO_29; clear HO_219000; clear BK218; clear HR222_0; clear HB; have HO_12 := n0_; have HO_29 := n1_; have HO_219000 := n2_; have HO233 := n3_; have BK218 := n4_; have HR222_0 := n5_; have HB := n6_; clear n0_ n1_ n2_ n3_ n4_ n5_ n6_; clear hb ho56; have q57 : (x19_3 : Int) ≤ ((x12_1.length : Int) : Int) := of_decide_eq_true (by first | (with_reducible assumption) | assumption); obtain ⟨i057, hi057, _, hsz57, _⟩ := info_parts info9; have hroom57 : x12_1.length ≤ co42 := (Kd.R_reads' HO_12.out).2.1; have hC57 : Kd.F Kd.string _ _ (some ad230) x12_1.length x12_1 := (Kd.V_at (base := w.heap.size) (Kd.R_V (Kd.R_types (Kd.R_apart' (HO_12.out) (Kd.N_typed HO_29.out) (by decide)) BK218.out (by decide)))).2.2; have hcut57 := cut_to (P := Tryz.prog) 22 9 .i64 Tryz.underlying22 hi057 (some ad230) x12_1.length co42 x19_3 (of_decide_eq_true (by first | (with_reducible assumption) | assumption)) q57 hroom57; have hr57 := Kd.F_take (m := (x19_3 : Int).toNat) hC57 (by omega); have hy57 : y234.length = (x19_3 : Int).toNat := (by rw [Ny234.out, List.length_take]; omega); rw [← Ny234.out] at hr57; rw [← hy57] at hcut57; have HO238 := Aside0.mk (show Kd.V Kd.string 9 _ w.heap.size _ (.slice (some ad230) y234.length co42) y234 from Kd.V_mk (by omega) hr57); have HC238 := Aside0.mk (show y234.length ≤ co42 from by omega); clear hr57 hC57 hroom57 hi057 hsz57; have KY57 := Aside0.mk hy57; clear hy57; replace q57 := eq_true q57) | ((with_reducible refine gate_builtin (b := .append) (xs := #[.tmp 78, .tmp 81]) rfl ?_); at_builtin; refine Kd.R_append_rows Kd.string (w0 := w) w.heap.size rfl (.tmp 78) (.tmp 81) 22 9 (.string ⟨#[]⟩) 16 rfl Tryz.underlying22 info9 rfl (by decide) (by omega) v232 y231 y234 _ _ _ (fun k_ => some k_ ≠ (.slice (some ad230) x12_1.length co42 : Value).ownBlock ∧ some k_ ≠ (.slice Ao10 t213.length co10 : Value).ownBlock) (fun _ => False) rfl rfl ?aO ?aR (fun _ _ h => h) (fun _ h => h.elim) ?aF ?aB ?aS ?aL ?_; (case aR => repeat (first | exact (Kd.V_reads' HO238.out).2.2 | (with_reducible refine Kd.C_alloc ?_ _) | (with_reducible refine Kd.C_drewN ?_ _) | (with_reducible refine Kd.C_drew ?_))); (case aB => exact (by repeat (first | (with_reducible first | exact HB.out | apply below_alloc | apply pw_below_drewN | apply below_drew1 | refine below_set ?_ GE218.out) | exact HB.out))); (case aF => exact (fun k_ hk => ⟨Kd.fresh' (Kd.R_lt (by (with_reducible repeat (first | apply Kd.R_alloc | apply Kd.R_drewN | apply Kd.R_drew)); exact HO_12.out)) k_ hk, Kd.fresh' (Kd.R_lt (by (with_reducible repeat (first | apply Kd.R_alloc | apply Kd.R_drewN | apply Kd.R_drew)); exact HO_219000.out)) k_ hk⟩)); (case aO => exact (by (with_reducible repeat (first | apply Kd.R_alloc | apply Kd.R_drewN | apply Kd.R_drew)); exact Kd.R_mono HO233.out (fun _ hk => ⟨hk.1.2, hk.2⟩))); (case aS => exact (below_size (by repeat (first | (with_reducible first | exact HB.out | apply below_alloc | apply pw_below_drewN | apply below_drew1 | refine below_set ?_ GE218.out) | exact HB.out)))); (case aL => have := LMc50.out; omega); intro v240 w58 ho hb hg hat; rw [← Ny239.out] at ho; have n0_ := Aside0.mk (Kd.R_after (ok := (fun k_ => some k_ ≠ (.slice Ao10 t213.length co10 : Value).ownBlock)) (by (with_reducible repeat (first | apply Kd.R_alloc | apply Kd.R_drewN | apply Kd.R_drew)); exact HO_12.out) hg hat); have n1_ := Aside0.mk (Kd.N_afterv (ok := (fun k_ => some k_ ≠ (.slice (some ad230) x12_1.length co42 : Value).ownBlock ∧ k_ ≠ gb218)) (by (with_reducible repeat (first | apply Kd.N_alloc | apply Kd.N_drewN | apply Kd.N_drew)); exact HO_29.out) hg hat); have n2_ := Aside0.mk (Kd.R_after (ok := (fun k_ => some k_ ≠ (.slice (some ad230) x12_1.length co42 : Value).ownBlock)) (by (with_reducible repeat (first | apply Kd.R_alloc | apply Kd.R_drewN | apply Kd.R_drew)); exact HO_219000.out) hg hat); have n3_ := Aside0.mk (blk_grown (g := gb218) (o := .cells #[.slice Ao10 t213.length co10, .bool t216] 31 (0, 0)) (by (with_reducible repeat (first | refine blk_drewN ?_ _ | refine blk_drew ?_ | refine blk_alloc ?_ _)); exact BK218.out) hg (Kd.R_ne HO233.out BK218.out (by decide))); have n4_ := Aside0.mk (Kd.V_afterv (ok := (fun k_ => some k_ ≠ (.slice (some ad222) t219.length co15 : Value).ownBlock ∧ some k_ ≠ (.slice Ao10 t213.length co10 : Value).ownBlock ∧ k_ ≠ gb218)) (by (with_reducible repeat (first | apply Kd.V_alloc | apply Kd.V_drewN | apply Kd.V_drew)); exact Kd.V_mono HO238.out (fun _ hk => ⟨⟨hk.1.2, ⟨hk.1.1.1, hk.2⟩⟩, hk.1.1.2⟩)) hg hat); have n5_ := Aside0.mk (hb); have n6_ := Aside0.mk (ho); clear HO_12; clear HO_29; clear HO_219000; clear BK218; clear HO238; clear HB; clear HO233; have HO_12 := n0_; have HO_29 := n1_; have HO_219000 := n2_; have BK218 := n3_; have HO238 := n4_; have HB := n5_; have HO241 := n6_; clear n0_ n1_ n2_ n3_ n4_ n5_ n6_; clear ho hb hg hat) | ((with_reducible refine gate_builtin (b := .append) (xs := #[.tmp 82, .tmp 84]) rfl ?_); at_builtin; refine Kd.R_append Kd.string (w0 := w) w.heap.size rfl (.tmp 82) (.tmp 84) 22 9 (.string ⟨#[]⟩) 16 rfl Tryz.underlying22 info9 rfl (by decide) (by omega) v240 y239 t227 [.string t227] (fun k_ => some k_ ≠ (.slice (some ad230) x12_1.length co42 : Value).ownBlock ∧ some k_ ≠ (.slice Ao10 t213.length co10 : Value).ownBlock) (fun _ => False) rfl rfl ?aP (fun _ hk => hk.elim) ?aF ?aO ?aB ?aS ?aL ?_; (case aP => exact rfl); (case aB => exact (by repeat (first | (with_reducible first | exact HB.out | apply below_alloc | apply pw_below_drewN | apply below_drew1 | refine below_set ?_ GE218.out) | exact HB.out))); (case aF => exact (fun k_ hk => ⟨Kd.fresh' (Kd.R_lt (by (with_reducible repeat (first | apply Kd.R_alloc | apply Kd.R_drewN | apply Kd.R_drew)); exact HO_12.out)) k_ hk, Kd.fresh' (Kd.R_lt (by (with_reducible repeat (first | apply Kd.R_alloc | apply Kd.R_drewN | apply Kd.R_drew)); exact HO_219000.out)) k_ hk⟩)); (case aO => exact (by (with_reducible repeat (first | apply Kd.R_alloc | apply Kd.R_drewN | apply Kd.R_drew)); exact HO241.out)); (case aS => exact (below_size (by repeat (first | (with_reducible first | exact HB.out | apply below_alloc | apply pw_below_drewN | apply below_drew1 | refine below_set ?_ GE218.out) | exact HB.out)))); (case aL => have := LMc51.out; omega); intro v243 w59 ho hb hg hat; rw [← Ny242.out] at ho; have n0_ := Aside0.mk (Kd.R_after (ok := (fun k_ => some k_ ≠ (.slice Ao10 t213.length co10 : Value).ownBlock)) (by (with_reducible repeat (first | apply Kd.R_alloc | apply Kd.R_drewN | apply Kd.R_drew)); exact HO_12.out) hg hat); have n1_ := Aside0.mk (Kd.N_afterv (ok := (fun k_ => some k_ ≠ (.slice (some ad230) x12_1.length co42 : Value).ownBlock ∧ k_ ≠ gb218)) (by (with_reducible repeat (first | apply Kd.N_alloc | apply Kd.N_drewN | apply Kd.N_drew)); exact HO_29.out) hg hat); have n2_ := Aside0.mk (Kd.R_after (ok := (fun k_ => some k_ ≠ (.slice (some ad230) x12_1.length co42 : Value).ownBlock)) (by (with_reducible repeat (first | apply Kd.R_alloc | apply Kd.R_drewN | apply Kd.R_drew)); exact HO_219000.out) hg hat); have n3_ := Aside0.mk (blk_grown (g := gb218) (o := .cells #[.slice Ao10 t213.length co10, .bool t216] 31 (0, 0)) (by (with_reducible repeat (first | refine blk_drewN ?_ _ | refine blk_drew ?_ | refine blk_alloc ?_ _)); exact BK218.out) hg (Kd.R_ne HO241.out BK218.out (by decide))); have n4_ := Aside0.mk (Kd.V_afterv (ok := (fun k_ => some k_ ≠ (.slice (some ad222) t219.length co15 : Value).ownBlock ∧ some k_ ≠ (.slice Ao10 t213.length co10 : Value).ownBlock ∧ k_ ≠ gb218)) (by (with_reducible repeat (first | apply Kd.V_alloc | apply Kd.V_drewN | apply Kd.V_drew)); exact HO238.out) hg hat); have n5_ := Aside0.mk (hb); have n6_ := Aside0.mk (ho); clear HO_12; clear HO_29; clear HO_219000; clear BK218; clear HO238; clear HB; clear HO241; have HO_12 := n0_; have HO_29 := n1_; have HO_219000 := n2_; have BK218 := n3_; have HO238 := n4_; have HB := n5_; have HO244 := n6_; clear n0_ n1_ n2_ n3_ n4_ n5_ n6_; clear ho hb hg hat; have q60 : (x19_3 : Int) ≤ ((x12_1.length : Int) : Int) := of_decide_eq_true (by first | (with_reducible assumption) | assumption); obtain ⟨i060, hi060, _, hsz60, _⟩ := info_parts info9; have hroom60 : x12_1.length ≤ co42 := (Kd.R_reads' HO_12.out).2.1; have hC60 : Kd.F Kd.string _ _ (some ad230) x12_1.length x12_1 := (Kd.V_at (base := w.heap.size) (Kd.R_V (Kd.R_types (Kd.R_apart' (HO_12.out) (Kd.N_typed HO_29.out) (by decide)) BK218.out (by decide)))).2.2; have q060 : (0 : Int) ≤ (x19_3 : Int) := of_decide_eq_true (by first | (with_reducible assumption) | assumption); have hcut60 := cut_from (P := Tryz.prog) 22 9 .i64 Tryz.underlying22 hi060 1 hsz60 (some ad230) x12_1.length co42 x19_3 q060 q60; have hr60 := Kd.F_cut (m := (x19_3 : Int).toNat) (c := co42) hC60 (by omega) hroom60; obtain ⟨A60, hA60⟩ : ∃ A1, A1 = (if co42 = (x19_3 : Int).toNat then (some ad230) else ((some ad230) : Option Addr).map (·.add ((x19_3 : Int).toNat * 1))) := ⟨_, rfl⟩; obtain ⟨c60, hc60⟩ : ∃ c1, c1 = co42 - (x19_3 : Int).toNat := ⟨_, rfl⟩; have hy60 : y245.length = x12_1.length - (x19_3 : Int).toNat := (by rw [Ny245.out, List.length_drop] <;> omega); rw [show (x12_1).drop (x19_3 : Int).toNat = y245 from Ny245.out.symm] at hr60; replace hr60 : Kd.F Kd.string _ _ A60 y245.length y245 := (by rw [hA60]; exact hr60); rw [← hy60, ← hA60, ← hc60] at hcut60; have HO249 := Aside0.mk (show Kd.V Kd.string 9 _ w.heap.size _ (.slice A60 y245.length c60) y245 from Kd.V_mk (by rw [hy60, hc60]; exact Nat.sub_le_sub_right hroom60 _) hr60); have HC249 := Aside0.mk (show y245.length ≤ c60 from by rw [hy60, hc60]; exact Nat.sub_le_sub_right hroom60 _); clear hr60 hC60 hroom60 hi060 hsz60 hc60; have KY60 := Aside0.mk hy60; have KA60 := Aside0.mk hA60; clear hy60 hA60; replace q60 := eq_true q60) | ((with_reducible refine gate_builtin (b := .append) (xs := #[.tmp 86, .tmp 89]) rfl ?_); at_builtin; refine Kd.R_append_rows Kd.string (w0 := w) w.heap.size rfl (.tmp 86) (.tmp 89) 22 9 (.string ⟨#[]⟩) 16 rfl Tryz.underlying22 info9 rfl (by decide) (by omega) v243 y242 y245 _ _ _ (fun k_ => some k_ ≠ (.slice (some ad230) x12_1.length co42 : Value).ownBlock ∧ some k_ ≠ (.slice Ao10 t213.length co10 : Value).ownBlock) (fun _ => False) rfl rfl ?aO ?aR (fun _ _ h => h) (fun _ h => h.elim) ?aF ?aB ?aS ?aL ?_; (case aR => repeat (first | exact (Kd.V_reads' HO249.out).2.2 | (with_reducible refine Kd.C_alloc ?_ _) | (with_reducible refine Kd.C_drewN ?_ _) | (with_reducible refine Kd.C_drew ?_))); (case aB => exact (by repeat (first | (with_reducible first | exact HB.out | apply below_alloc | apply pw_below_drewN | apply below_drew1 | refine below_set ?_ GE218.out) | exact HB.out))); (case aF => exact (fun k_ hk => ⟨Kd.fresh' (Kd.R_lt (by (with_reducible repeat (first | apply Kd.R_alloc | apply Kd.R_drewN | apply Kd.R_drew)); exact HO_12.out)) k_ hk, Kd.fresh' (Kd.R_lt (by (with_reducible repeat (first | apply Kd.R_alloc | apply Kd.R_drewN | apply Kd.R_drew)); exact HO_219000.out)) k_ hk⟩)); (case aO => exact (by (with_reducible repeat (first | apply Kd.R_alloc | apply Kd.R_drewN | apply Kd.R_drew)); exact HO244.out)); (case aS => exact (below_size (by repeat (first | (with_reducible first | exact HB.out | apply below_alloc | apply pw_below_drewN | apply below_drew1 | refine below_set ?_ GE218.out) | exact HB.out)))); (case aL => have := LMc54.out; omega); intro v251 w61 ho hb hg hat; rw [← Ny250.out] at ho; have n0_ := Aside0.mk (Kd.R_after (ok := (fun k_ => some k_ ≠ (.slice Ao10 t213.length co10 : Value).ownBlock)) (by (with_reducible repeat (first | apply Kd.R_alloc | apply Kd.R_drewN | apply Kd.R_drew)); exact HO_12.out) hg hat); have n1_ := Aside0.mk (Kd.N_afterv (ok := (fun k_ => some k_ ≠ (.slice (some ad230) x12_1.length co42 : Value).ownBlock ∧ k_ ≠ gb218)) (by (with_reducible repeat (first | apply Kd.N_alloc | apply Kd.N_drewN | apply Kd.N_drew)); exact HO_29.out) hg hat); have n2_ := Aside0.mk (Kd.R_after (ok := (fun k_ => some k_ ≠ (.slice (some ad230) x12_1.length co42 : Value).ownBlock)) (by (with_reducible repeat (first | apply Kd.R_alloc | apply Kd.R_drewN | apply Kd.R_drew)); exact HO_219000.out) hg hat); have n3_ := Aside0.mk (blk_grown (g := gb218) (o := .cells #[.slice Ao10 t213.length co10, .bool t216] 31 (0, 0)) (by (with_reducible repeat (first | refine blk_drewN ?_ _ | refine blk_drew ?_ | refine blk_alloc ?_ _)); exact BK218.out) hg (Kd.R_ne HO244.out BK218.out (by decide))); have n4_ := Aside0.mk (Kd.V_afterv (ok := (fun k_ => some k_ ≠ (.slice (some ad222) t219.length co15 : Value).ownBlock ∧ some k_ ≠ (.slice Ao10 t213.length co10 : Value).ownBlock ∧ k_ ≠ gb218)) (by (with_reducible repeat (first | apply Kd.V_alloc | apply Kd.V_drewN | apply Kd.V_drew)); exact HO238.out) hg hat); have n5_ := Aside0.mk (Kd.V_afterv (ok := (fun k_ => some k_ ≠ (.slice (some ad222) t219.length co15 : Value).ownBlock ∧ some k_ ≠ (.slice Ao10 t213.length co10 : Value).ownBlock ∧ k_ ≠ gb218)) (by (with_reducible repeat (first | apply Kd.V_alloc | apply Kd.V_drewN | apply Kd.V_drew)); exact Kd.V_mono HO249.out (fun _ hk => ⟨⟨hk.1.2, ⟨hk.1.1.1, hk.2⟩⟩, hk.1.1.2⟩)) hg hat); have n6_ := Aside0.mk (hb); have n7_ := Aside0.mk (ho); clear HO_12; clear HO_29; clear HO_219000; clear BK218; clear HO238; clear HO249; clear HB; clear HO244; have HO_12 := n0_; have HO_29 := n1_; have HO_219000 := n2_; have BK218 := n3_; have HO238 := n4_; have HO249 := n5_; have HB := n6_; have HO252 := n7_; clear n0_ n1_ n2_ n3_ n4_ n5_ n6_ n7_; clear ho hb hg hat))
                     go_roundg k3
                     case measure => have := HK1.out; have := HJ20.out; have := HK3.out; omega
                     case rel => exact ⟨(y250), (wrap64 (x31_1 + 1)), (by first | rfl | (simp; done) | (simp [*]; done)), H', ⟨by have := HK1.out; have := HJ20.out; have := HK3.out; omega⟩, ⟨by (with_reducible repeat (first | apply Kd.R_alloc | apply Kd.R_drewN | apply Kd.R_drew)); exact Kd.R_mono HO252.out (fun _ hk => hk.2)⟩, ⟨by (with_reducible repeat (first | apply Kd.N_alloc | apply Kd.N_drewN | apply Kd.N_drew)); exact Kd.N_mono HO_29.out (fun _ hk => ⟨hk.2, hk.1.2⟩)⟩, ⟨by (with_reducible repeat (first | apply Kd.R_alloc | apply Kd.R_drewN | apply Kd.R_drew)); exact Kd.R_mono HO_219000.out (fun _ hk => hk.2)⟩, ⟨by (with_reducible repeat (first | refine blk_drewN ?_ _ | refine blk_drew ?_ | refine blk_alloc ?_ _)); exact BK218.out⟩, ⟨by repeat (first | (with_reducible first | exact HB.out | apply below_alloc | apply pw_below_drewN | apply below_drew1 | refine below_set ?_ GE218.out) | exact HB.out)⟩⟩
                    ·rw [if_neg c54] at H
                     exact absurd H (by simp)
                   ·rw [if_neg c51] at H
                    exact absurd H (by simp)
                  ·rw [if_neg c50] at H
                   exact absurd H (by simp)
                 ·rw [if_neg c49] at H
                  exact absurd H (by simp)
                ·rw [if_neg c48] at H
                 exact absurd H (by simp)
              ·rw [if_neg c46] at H
               exact absurd H (by simp)
             ·rw [if_neg c45] at H
              exact absurd H (by simp)
            ·rw [if_neg c43] at H
             have c43b0 : decide (0 < x19_3) = false := decide_eq_false c43
             clear c43
             obtain ⟨y253, hy253⟩ : ∃ y_ : List ByteArray, y_ = (([] : List ByteArray)) := ⟨_, rfl⟩
             replace H : (if 0 ≤ x19_3 then (if x19_3 ≤ (x12_1.length : Int) then ((some (x12_1.take (x19_3 : Int).toNat : List ByteArray)).bind fun y256 => (if y253.length + y256.length < 8796093022208 then ((some (y253 ++ y256 : List ByteArray)).bind fun y261 => (if y261.length < 8796093022208 then ((some (y261 ++ [t227] : List ByteArray)).bind fun y264 => ((some (x12_1.drop (x19_3 : Int).toNat : List ByteArray)).bind fun y267 => (if y264.length + y267.length < 8796093022208 then (spec_nuThose.l0 k3 a1 a2 a3 (y264 ++ y267) t219 (t219.length : Int) (wrap64 (x31_1 + 1)) t213 t216) else (none)))) else (none))) else (none))) else (none)) else (none)) = some (r1, r2) := by first | (rw [hy253]; with_reducible exact H) | (have H2_ := (Option.bind_some _ _).symm.trans H; rw [hy253]; with_reducible exact H2_) | (have H2_ := (Option.bind_some _ _).symm.trans H; with_reducible exact H2_) | with_reducible exact H | (rw [hy253]; exact H) | exact H
             have Ny253 := Aside0.mk hy253
             clear hy253
             by_cases c62 : 0 ≤ x19_3
             ·rw [if_pos c62] at H
              have c62b0 := eq_true c62
              have c62b1 : decide (0 ≤ x19_3) = true := decide_eq_true c62
              clear c62
              by_cases c63 : x19_3 ≤ (x12_1.length : Int)
              ·rw [if_pos c63] at H
               have c63b0 := eq_true c63
               have c63b1 : decide (x19_3 ≤ (x12_1.length : Int)) = true := decide_eq_true c63
               clear c63
               obtain ⟨y256, hy256⟩ : ∃ y_ : List ByteArray, y_ = (x12_1.take (x19_3 : Int).toNat) := ⟨_, rfl⟩
               replace H : (if y253.length + y256.length < 8796093022208 then ((some (y253 ++ y256 : List ByteArray)).bind fun y261 => (if y261.length < 8796093022208 then ((some (y261 ++ [t227] : List ByteArray)).bind fun y264 => ((some (x12_1.drop (x19_3 : Int).toNat : List ByteArray)).bind fun y267 => (if y264.length + y267.length < 8796093022208 then (spec_nuThose.l0 k3 a1 a2 a3 (y264 ++ y267) t219 (t219.length : Int) (wrap64 (x31_1 + 1)) t213 t216) else (none)))) else (none))) else (none)) = some (r1, r2) := by first | (rw [hy256]; with_reducible exact H) | (have H2_ := (Option.bind_some _ _).symm.trans H; rw [hy256]; with_reducible exact H2_) | (have H2_ := (Option.bind_some _ _).symm.trans H; with_reducible exact H2_) | with_reducible exact H | (rw [hy256]; exact H) | exact H
               have Ny256 := Aside0.mk hy256
               clear hy256
               by_cases c64 : y253.length + y256.length < 8796093022208
               ·rw [if_pos c64] at H
                have LMc64 := Aside0.mk c64
                clear c64
                obtain ⟨y261, hy261⟩ : ∃ y_ : List ByteArray, y_ = (y253 ++ y256) := ⟨_, rfl⟩
                replace H : (if y261.length < 8796093022208 then ((some (y261 ++ [t227] : List ByteArray)).bind fun y264 => ((some (x12_1.drop (x19_3 : Int).toNat : List ByteArray)).bind fun y267 => (if y264.length + y267.length < 8796093022208 then (spec_nuThose.l0 k3 a1 a2 a3 (y264 ++ y267) t219 (t219.length : Int) (wrap64 (x31_1 + 1)) t213 t216) else (none)))) else (none)) = some (r1, r2) := by first | (rw [hy261]; with_reducible exact H) | (have H2_ := (Option.bind_some _ _).symm.trans H; rw [hy261]; with_reducible exact H2_) | (have H2_ := (Option.bind_some _ _).symm.trans H; with_reducible exact H2_) | with_reducible exact H | (rw [hy261]; exact H) | exact H
                have Ny261 := Aside0.mk hy261
                clear hy261
                by_cases c65 : y261.length < 8796093022208
                ·rw [if_pos c65] at H
                 have LMc65 := Aside0.mk c65
                 clear c65
                 obtain ⟨y264, hy264⟩ : ∃ y_ : List ByteArray, y_ = (y261 ++ [t227]) := ⟨_, rfl⟩
                 replace H : ((some (x12_1.drop (x19_3 : Int).toNat : List ByteArray)).bind fun y267 => (if y264.length + y267.length < 8796093022208 then (spec_nuThose.l0 k3 a1 a2 a3 (y264 ++ y267) t219 (t219.length : Int) (wrap64 (x31_1 + 1)) t213 t216) else (none))) = some (r1, r2) := by first | (rw [hy264]; with_reducible exact H) | (have H2_ := (Option.bind_some _ _).symm.trans H; rw [hy264]; with_reducible exact H2_) | (have H2_ := (Option.bind_some _ _).symm.trans H; with_reducible exact H2_) | with_reducible exact H | (rw [hy264]; exact H) | exact H
                 have Ny264 := Aside0.mk hy264
                 clear hy264
                 have c66b0 := eq_true (of_decide_eq_true (by first | (with_reducible assumption) | assumption) : 0 ≤ x19_3)
                 have c67b0 := eq_true (of_decide_eq_true (by first | (with_reducible assumption) | assumption) : x19_3 ≤ (x12_1.length : Int))
                 obtain ⟨y267, hy267⟩ : ∃ y_ : List ByteArray, y_ = (x12_1.drop (x19_3 : Int).toNat) := ⟨_, rfl⟩
                 replace H : (if y264.length + y267.length < 8796093022208 then (spec_nuThose.l0 k3 a1 a2 a3 (y264 ++ y267) t219 (t219.length : Int) (wrap64 (x31_1 + 1)) t213 t216) else (none)) = some (r1, r2) := by first | (rw [hy267]; with_reducible exact H) | (have H2_ := (Option.bind_some _ _).symm.trans H; rw [hy267]; with_reducible exact H2_) | (have H2_ := (Option.bind_some _ _).symm.trans H; with_reducible exact H2_) | with_reducible exact H | (rw [hy267]; exact H) | exact H
                 have Ny267 := Aside0.mk hy267
                 clear hy267
                 by_cases c68 : y264.length + y267.length < 8796093022208
                 ·rw [if_pos c68] at H
                  have LMc68 := Aside0.mk c68
                  clear c68
                  obtain ⟨y272, hy272⟩ : ∃ y_ : List ByteArray, y_ = (y264 ++ y267) := ⟨_, rfl⟩
                  replace H : (spec_nuThose.l0 k3 a1 a2 a3 y272 t219 (t219.length : Int) (wrap64 (x31_1 + 1)) t213 t216) = some (r1, r2) := by first | (rw [hy272]; with_reducible exact H) | (have H2_ := (Option.bind_some _ _).symm.trans H; rw [hy272]; with_reducible exact H2_) | (have H2_ := (Option.bind_some _ _).symm.trans H; with_reducible exact H2_) | with_reducible exact H | (rw [hy272]; exact H) | exact H
                  have Ny272 := Aside0.mk hy272
                  clear hy272
                  have H' := Aside0.mk H
                  clear H
                  go_wp2_with (first | ((with_reducible refine gate_dst (N := 78) rfl ?_); refine Kd.R_lit Kd.string _ 9 ?hg (N := 78) ?hd (xs := ([] : List ByteArray)) (inner := []) (ok := fun _ => True) (okp := fun _ => True) ?hr ?hp (fun _ hk => hk) trivial (Below.refl _ _) (Nat.le_refl _) (by simp) ?_; (case hd => rfl); (case hg => rfl); (case hr => first | (go_simp; done) | (go_simp; rfl)); (case hp => exact (Reps.none _ _)); intro v254 w69 ho70 hb hg_ hnew_; clear hg_ hnew_; (first | rw [← Ny253.out] at ho70 | (simp only [Int.reduceToNat] at ho70; rw [← Ny253.out] at ho70)); have n0_ := Aside0.mk (Kd.R_elder' (by (with_reducible repeat (first | apply Kd.R_alloc | apply Kd.R_drewN | apply Kd.R_drew)); exact HO_12.out) (Kd.R_base ho70) hb); have n1_ := Aside0.mk (Kd.N_elder' (by (with_reducible repeat (first | apply Kd.N_alloc | apply Kd.N_drewN | apply Kd.N_drew)); exact HO_29.out) (Kd.R_base ho70) hb); have n2_ := Aside0.mk (Kd.R_elder' (by (with_reducible repeat (first | apply Kd.R_alloc | apply Kd.R_drewN | apply Kd.R_drew)); exact HO_219000.out) (Kd.R_base ho70) hb); have n3_ := Aside0.mk (Kd.R_lower (Kd.R_new' (Kd.R_new' ho70 (Kd.R_lt (by (with_reducible repeat (first | apply Kd.R_alloc | apply Kd.R_drewN | apply Kd.R_drew)); exact HO_12.out))) (Kd.R_lt (by (with_reducible repeat (first | apply Kd.R_alloc | apply Kd.R_drewN | apply Kd.R_drew)); exact HO_219000.out))) (below_size (by repeat (first | (with_reducible first | exact HB.out | apply below_alloc | apply pw_below_drewN | apply below_drew1 | refine below_set ?_ GE218.out) | exact HB.out)))); have n4_ := Aside0.mk (blk_below (g := gb218) (o := .cells #[.slice Ao10 t213.length co10, .bool t216] 31 (0, 0)) (by (with_reducible repeat (first | refine blk_drewN ?_ _ | refine blk_drew ?_ | refine blk_alloc ?_ _)); exact BK218.out) hb); have n5_ := Aside0.mk (Kd.C_below (by repeat (first | (with_reducible exact HR222_0.out) | (with_reducible refine Kd.C_alloc ?_ _) | (with_reducible refine Kd.C_drewN ?_ _) | (with_reducible refine Kd.C_drew ?_) | exact HR222_0.out)) hb); have n6_ := Aside0.mk (below_step (by repeat (first | (with_reducible first | exact HB.out | apply below_alloc | apply pw_below_drewN | apply below_drew1 | refine below_set ?_ GE218.out) | exact HB.out)) hb); clear HO_12; clear HO_29; clear HO_219000; clear BK218; clear HR222_0; clear HB; have HO_12 := n0_; have HO_29 := n1_; have HO_219000 := n2_; have HO255 := n3_; have BK218 := n4_; have HR222_0 := n5_; have HB := n6_; clear n0_ n1_ n2_ n3_ n4_ n5_ n6_; clear hb ho70; have q71 : (x19_3 : Int) ≤ ((x12_1.length : Int) : Int) := of_decide_eq_true (by first | (with_reducible assumption) | assumption); obtain ⟨i071, hi071, _, hsz71, _⟩ := info_parts info9; have hroom71 : x12_1.length ≤ co42 := (Kd.R_reads' HO_12.out).2.1; have hC71 : Kd.F Kd.string _ _ Ao42 x12_1.length x12_1 := (Kd.V_at (base := w.heap.size) (Kd.R_V (Kd.R_types (Kd.R_apart' (HO_12.out) (Kd.N_typed HO_29.out) (by decide)) BK218.out (by decide)))).2.2; have hcut71 := cut_to (P := Tryz.prog) 22 9 .i64 Tryz.underlying22 hi071 Ao42 x12_1.length co42 x19_3 (of_decide_eq_true (by first | (with_reducible assumption) | assumption)) q71 hroom71; have hr71 := Kd.F_take (m := (x19_3 : Int).toNat) hC71 (by omega); have hy71 : y256.length = (x19_3 : Int).toNat := (by rw [Ny256.out, List.length_take]; omega); rw [← Ny256.out] at hr71; rw [← hy71] at hcut71; have HO260 := Aside0.mk (show Kd.V Kd.string 9 _ w.heap.size _ (.slice Ao42 y256.length co42) y256 from Kd.V_mk (by omega) hr71); have HC260 := Aside0.mk (show y256.length ≤ co42 from by omega); clear hr71 hC71 hroom71 hi071 hsz71; have KY71 := Aside0.mk hy71; clear hy71; replace q71 := eq_true q71) | ((with_reducible refine gate_builtin (b := .append) (xs := #[.tmp 78, .tmp 81]) rfl ?_); at_builtin; refine Kd.R_append_rows Kd.string (w0 := w) w.heap.size rfl (.tmp 78) (.tmp 81) 22 9 (.string ⟨#[]⟩) 16 rfl Tryz.underlying22 info9 rfl (by decide) (by omega) v254 y253 y256 _ _ _ (fun k_ => some k_ ≠ (.slice Ao42 x12_1.length co42 : Value).ownBlock ∧ some k_ ≠ (.slice Ao10 t213.length co10 : Value).ownBlock) (fun _ => False) rfl rfl ?aO ?aR (fun _ _ h => h) (fun _ h => h.elim) ?aF ?aB ?aS ?aL ?_; (case aR => repeat (first | exact (Kd.V_reads' HO260.out).2.2 | (with_reducible refine Kd.C_alloc ?_ _) | (with_reducible refine Kd.C_drewN ?_ _) | (with_reducible refine Kd.C_drew ?_))); (case aB => exact (by repeat (first | (with_reducible first | exact HB.out | apply below_alloc | apply pw_below_drewN | apply below_drew1 | refine below_set ?_ GE218.out) | exact HB.out))); (case aF => exact (fun k_ hk => ⟨Kd.fresh' (Kd.R_lt (by (with_reducible repeat (first | apply Kd.R_alloc | apply Kd.R_drewN | apply Kd.R_drew)); exact HO_12.out)) k_ hk, Kd.fresh' (Kd.R_lt (by (with_reducible repeat (first | apply Kd.R_alloc | apply Kd.R_drewN | apply Kd.R_drew)); exact HO_219000.out)) k_ hk⟩)); (case aO => exact (by (with_reducible repeat (first | apply Kd.R_alloc | apply Kd.R_drewN | apply Kd.R_drew)); exact Kd.R_mono HO255.out (fun _ hk => ⟨hk.1.2, hk.2⟩))); (case aS => exact (below_size (by repeat (first | (with_reducible first | exact HB.out | apply below_alloc | apply pw_below_drewN | apply below_drew1 | refine below_set ?_ GE218.out) | exact HB.out)))); (case aL => have := LMc64.out; omega); intro v262 w72 ho hb hg hat; rw [← Ny261.out] at ho; have n0_ := Aside0.mk (Kd.R_after (ok := (fun k_ => some k_ ≠ (.slice Ao10 t213.length co10 : Value).ownBlock)) (by (with_reducible repeat (first | apply Kd.R_alloc | apply Kd.R_drewN | apply Kd.R_drew)); exact HO_12.out) hg hat); have n1_ := Aside0.mk (Kd.N_afterv (ok := (fun k_ => some k_ ≠ (.slice Ao42 x12_1.length co42 : Value).ownBlock ∧ k_ ≠ gb218)) (by (with_reducible repeat (first | apply Kd.N_alloc | apply Kd.N_drewN | apply Kd.N_drew)); exact HO_29.out) hg hat); have n2_ := Aside0.mk (Kd.R_after (ok := (fun k_ => some k_ ≠ (.slice Ao42 x12_1.length co42 : Value).ownBlock)) (by (with_reducible repeat (first | apply Kd.R_alloc | apply Kd.R_drewN | apply Kd.R_drew)); exact HO_219000.out) hg hat); have n3_ := Aside0.mk (blk_grown (g := gb218) (o := .cells #[.slice Ao10 t213.length co10, .bool t216] 31 (0, 0)) (by (with_reducible repeat (first | refine blk_drewN ?_ _ | refine blk_drew ?_ | refine blk_alloc ?_ _)); exact BK218.out) hg (Kd.R_ne HO255.out BK218.out (by decide))); have n4_ := Aside0.mk (Kd.V_afterv (ok := (fun k_ => some k_ ≠ (.slice (some ad222) t219.length co15 : Value).ownBlock ∧ some k_ ≠ (.slice Ao10 t213.length co10 : Value).ownBlock ∧ k_ ≠ gb218)) (by (with_reducible repeat (first | apply Kd.V_alloc | apply Kd.V_drewN | apply Kd.V_drew)); exact Kd.V_mono HO260.out (fun _ hk => ⟨⟨hk.1.2, ⟨hk.1.1.1, hk.2⟩⟩, hk.1.1.2⟩)) hg hat); have n5_ := Aside0.mk (hb); have n6_ := Aside0.mk (ho); clear HO_12; clear HO_29; clear HO_219000; clear BK218; clear HO260; clear HB; clear HO255; have HO_12 := n0_; have HO_29 := n1_; have HO_219000 := n2_; have BK218 := n3_; have HO260 := n4_; have HB := n5_; have HO263 := n6_; clear n0_ n1_ n2_ n3_ n4_ n5_ n6_; clear ho hb hg hat) | ((with_reducible refine gate_builtin (b := .append) (xs := #[.tmp 82, .tmp 84]) rfl ?_); at_builtin; refine Kd.R_append Kd.string (w0 := w) w.heap.size rfl (.tmp 82) (.tmp 84) 22 9 (.string ⟨#[]⟩) 16 rfl Tryz.underlying22 info9 rfl (by decide) (by omega) v262 y261 t227 [.string t227] (fun k_ => some k_ ≠ (.slice Ao42 x12_1.length co42 : Value).ownBlock ∧ some k_ ≠ (.slice Ao10 t213.length co10 : Value).ownBlock) (fun _ => False) rfl rfl ?aP (fun _ hk => hk.elim) ?aF ?aO ?aB ?aS ?aL ?_; (case aP => exact rfl); (case aB => exact (by repeat (first | (with_reducible first | exact HB.out | apply below_alloc | apply pw_below_drewN | apply below_drew1 | refine below_set ?_ GE218.out) | exact HB.out))); (case aF => exact (fun k_ hk => ⟨Kd.fresh' (Kd.R_lt (by (with_reducible repeat (first | apply Kd.R_alloc | apply Kd.R_drewN | apply Kd.R_drew)); exact HO_12.out)) k_ hk, Kd.fresh' (Kd.R_lt (by (with_reducible repeat (first | apply Kd.R_alloc | apply Kd.R_drewN | apply Kd.R_drew)); exact HO_219000.out)) k_ hk⟩)); (case aO => exact (by (with_reducible repeat (first | apply Kd.R_alloc | apply Kd.R_drewN | apply Kd.R_drew)); exact HO263.out)); (case aS => exact (below_size (by repeat (first | (with_reducible first | exact HB.out | apply below_alloc | apply pw_below_drewN | apply below_drew1 | refine below_set ?_ GE218.out) | exact HB.out)))); (case aL => have := LMc65.out; omega); intro v265 w73 ho hb hg hat; rw [← Ny264.out] at ho; have n0_ := Aside0.mk (Kd.R_after (ok := (fun k_ => some k_ ≠ (.slice Ao10 t213.length co10 : Value).ownBlock)) (by (with_reducible repeat (first | apply Kd.R_alloc | apply Kd.R_drewN | apply Kd.R_drew)); exact HO_12.out) hg hat); have n1_ := Aside0.mk (Kd.N_afterv (ok := (fun k_ => some k_ ≠ (.slice Ao42 x12_1.length co42 : Value).ownBlock ∧ k_ ≠ gb218)) (by (with_reducible repeat (first | apply Kd.N_alloc | apply Kd.N_drewN | apply Kd.N_drew)); exact HO_29.out) hg hat); have n2_ := Aside0.mk (Kd.R_after (ok := (fun k_ => some k_ ≠ (.slice Ao42 x12_1.length co42 : Value).ownBlock)) (by (with_reducible repeat (first | apply Kd.R_alloc | apply Kd.R_drewN | apply Kd.R_drew)); exact HO_219000.out) hg hat); have n3_ := Aside0.mk (blk_grown (g := gb218) (o := .cells #[.slice Ao10 t213.length co10, .bool t216] 31 (0, 0)) (by (with_reducible repeat (first | refine blk_drewN ?_ _ | refine blk_drew ?_ | refine blk_alloc ?_ _)); exact BK218.out) hg (Kd.R_ne HO263.out BK218.out (by decide))); have n4_ := Aside0.mk (Kd.V_afterv (ok := (fun k_ => some k_ ≠ (.slice (some ad222) t219.length co15 : Value).ownBlock ∧ some k_ ≠ (.slice Ao10 t213.length co10 : Value).ownBlock ∧ k_ ≠ gb218)) (by (with_reducible repeat (first | apply Kd.V_alloc | apply Kd.V_drewN | apply Kd.V_drew)); exact HO260.out) hg hat); have n5_ := Aside0.mk (hb); have n6_ := Aside0.mk (ho); clear HO_12; clear HO_29; clear HO_219000; clear BK218; clear HO260; clear HB; clear HO263; have HO_12 := n0_; have HO_29 := n1_; have HO_219000 := n2_; have BK218 := n3_; have HO260 := n4_; have HB := n5_; have HO266 := n6_; clear n0_ n1_ n2_ n3_ n4_ n5_ n6_; clear ho hb hg hat; have q74 : (x19_3 : Int) ≤ ((x12_1.length : Int) : Int) := of_decide_eq_true (by first | (with_reducible assumption) | assumption); obtain ⟨i074, hi074, _, hsz74, _⟩ := info_parts info9; have hroom74 : x12_1.length ≤ co42 := (Kd.R_reads' HO_12.out).2.1; have hC74 : Kd.F Kd.string _ _ Ao42 x12_1.length x12_1 := (Kd.V_at (base := w.heap.size) (Kd.R_V (Kd.R_types (Kd.R_apart' (HO_12.out) (Kd.N_typed HO_29.out) (by decide)) BK218.out (by decide)))).2.2; have q074 : (0 : Int) ≤ (x19_3 : Int) := of_decide_eq_true (by first | (with_reducible assumption) | assumption); have hcut74 := cut_from (P := Tryz.prog) 22 9 .i64 Tryz.underlying22 hi074 1 hsz74 Ao42 x12_1.length co42 x19_3 q074 q74; have hr74 := Kd.F_cut (m := (x19_3 : Int).toNat) (c := co42) hC74 (by omega) hroom74; obtain ⟨A74, hA74⟩ : ∃ A1, A1 = (if co42 = (x19_3 : Int).toNat then Ao42 else (Ao42 : Option Addr).map (·.add ((x19_3 : Int).toNat * 1))) := ⟨_, rfl⟩; obtain ⟨c74, hc74⟩ : ∃ c1, c1 = co42 - (x19_3 : Int).toNat := ⟨_, rfl⟩; have hy74 : y267.length = x12_1.length - (x19_3 : Int).toNat := (by rw [Ny267.out, List.length_drop] <;> omega); rw [show (x12_1).drop (x19_3 : Int).toNat = y267 from Ny267.out.symm] at hr74; replace hr74 : Kd.F Kd.string _ _ A74 y267.length y267 := (by rw [hA74]; exact hr74); rw [← hy74, ← hA74, ← hc74] at hcut74; have HO271 := Aside0.mk (show Kd.V Kd.string 9 _ w.heap.size _ (.slice A74 y267.length c74) y267 from Kd.V_mk (by rw [hy74, hc74]; exact Nat.sub_le_sub_right hroom74 _) hr74); have HC271 := Aside0.mk (show y267.length ≤ c74 from by rw [hy74, hc74]; exact Nat.sub_le_sub_right hroom74 _); clear hr74 hC74 hroom74 hi074 hsz74 hc74; have KY74 := Aside0.mk hy74; have KA74 := Aside0.mk hA74; clear hy74 hA74; replace q74 := eq_true q74) | ((with_reducible refine gate_builtin (b := .append) (xs := #[.tmp 86, .tmp 89]) rfl ?_); at_builtin; refine Kd.R_append_rows Kd.string (w0 := w) w.heap.size rfl (.tmp 86) (.tmp 89) 22 9 (.string ⟨#[]⟩) 16 rfl Tryz.underlying22 info9 rfl (by decide) (by omega) v265 y264 y267 _ _ _ (fun k_ => some k_ ≠ (.slice Ao42 x12_1.length co42 : Value).ownBlock ∧ some k_ ≠ (.slice Ao10 t213.length co10 : Value).ownBlock) (fun _ => False) rfl rfl ?aO ?aR (fun _ _ h => h) (fun _ h => h.elim) ?aF ?aB ?aS ?aL ?_; (case aR => repeat (first | exact (Kd.V_reads' HO271.out).2.2 | (with_reducible refine Kd.C_alloc ?_ _) | (with_reducible refine Kd.C_drewN ?_ _) | (with_reducible refine Kd.C_drew ?_))); (case aB => exact (by repeat (first | (with_reducible first | exact HB.out | apply below_alloc | apply pw_below_drewN | apply below_drew1 | refine below_set ?_ GE218.out) | exact HB.out))); (case aF => exact (fun k_ hk => ⟨Kd.fresh' (Kd.R_lt (by (with_reducible repeat (first | apply Kd.R_alloc | apply Kd.R_drewN | apply Kd.R_drew)); exact HO_12.out)) k_ hk, Kd.fresh' (Kd.R_lt (by (with_reducible repeat (first | apply Kd.R_alloc | apply Kd.R_drewN | apply Kd.R_drew)); exact HO_219000.out)) k_ hk⟩)); (case aO => exact (by (with_reducible repeat (first | apply Kd.R_alloc | apply Kd.R_drewN | apply Kd.R_drew)); exact HO266.out)); (case aS => exact (below_size (by repeat (first | (with_reducible first | exact HB.out | apply below_alloc | apply pw_below_drewN | apply below_drew1 | refine below_set ?_ GE218.out) | exact HB.out)))); (case aL => have := LMc68.out; omega); intro v273 w75 ho hb hg hat; rw [← Ny272.out] at ho; have n0_ := Aside0.mk (Kd.R_after (ok := (fun k_ => some k_ ≠ (.slice Ao10 t213.length co10 : Value).ownBlock)) (by (with_reducible repeat (first | apply Kd.R_alloc | apply Kd.R_drewN | apply Kd.R_drew)); exact HO_12.out) hg hat); have n1_ := Aside0.mk (Kd.N_afterv (ok := (fun k_ => some k_ ≠ (.slice Ao42 x12_1.length co42 : Value).ownBlock ∧ k_ ≠ gb218)) (by (with_reducible repeat (first | apply Kd.N_alloc | apply Kd.N_drewN | apply Kd.N_drew)); exact HO_29.out) hg hat); have n2_ := Aside0.mk (Kd.R_after (ok := (fun k_ => some k_ ≠ (.slice Ao42 x12_1.length co42 : Value).ownBlock)) (by (with_reducible repeat (first | apply Kd.R_alloc | apply Kd.R_drewN | apply Kd.R_drew)); exact HO_219000.out) hg hat); have n3_ := Aside0.mk (blk_grown (g := gb218) (o := .cells #[.slice Ao10 t213.length co10, .bool t216] 31 (0, 0)) (by (with_reducible repeat (first | refine blk_drewN ?_ _ | refine blk_drew ?_ | refine blk_alloc ?_ _)); exact BK218.out) hg (Kd.R_ne HO266.out BK218.out (by decide))); have n4_ := Aside0.mk (Kd.V_afterv (ok := (fun k_ => some k_ ≠ (.slice (some ad222) t219.length co15 : Value).ownBlock ∧ some k_ ≠ (.slice Ao10 t213.length co10 : Value).ownBlock ∧ k_ ≠ gb218)) (by (with_reducible repeat (first | apply Kd.V_alloc | apply Kd.V_drewN | apply Kd.V_drew)); exact HO260.out) hg hat); have n5_ := Aside0.mk (Kd.V_afterv (ok := (fun k_ => some k_ ≠ (.slice (some ad222) t219.length co15 : Value).ownBlock ∧ some k_ ≠ (.slice Ao10 t213.length co10 : Value).ownBlock ∧ k_ ≠ gb218)) (by (with_reducible repeat (first | apply Kd.V_alloc | apply Kd.V_drewN | apply Kd.V_drew)); exact Kd.V_mono HO271.out (fun _ hk => ⟨⟨hk.1.2, ⟨hk.1.1.1, hk.2⟩⟩, hk.1.1.2⟩)) hg hat); have n6_ := Aside0.mk (hb); have n7_ := Aside0.mk (ho); clear HO_12; clear HO_29; clear HO_219000; clear BK218; clear HO260; clear HO271; clear HB; clear HO266; have HO_12 := n0_; have HO_29 := n1_; have HO_219000 := n2_; have BK218 := n3_; have HO260 := n4_; have HO271 := n5_; have HB := n6_; have HO274 := n7_; clear n0_ n1_ n2_ n3_ n4_ n5_ n6_ n7_; clear ho hb hg hat))
                  go_roundg k3
                  case measure => have := HK1.out; have := HJ20.out; have := HK3.out; omega
                  case rel => exact ⟨(y272), (wrap64 (x31_1 + 1)), (by first | rfl | (simp; done) | (simp [*]; done)), H', ⟨by have := HK1.out; have := HJ20.out; have := HK3.out; omega⟩, ⟨by (with_reducible repeat (first | apply Kd.R_alloc | apply Kd.R_drewN | apply Kd.R_drew)); exact Kd.R_mono HO274.out (fun _ hk => hk.2)⟩, ⟨by (with_reducible repeat (first | apply Kd.N_alloc | apply Kd.N_drewN | apply Kd.N_drew)); exact Kd.N_mono HO_29.out (fun _ hk => ⟨hk.2, hk.1.2⟩)⟩, ⟨by (with_reducible repeat (first | apply Kd.R_alloc | apply Kd.R_drewN | apply Kd.R_drew)); exact Kd.R_mono HO_219000.out (fun _ hk => hk.2)⟩, ⟨by (with_reducible repeat (first | refine blk_drewN ?_ _ | refine blk_drew ?_ | refine blk_alloc ?_ _)); exact BK218.out⟩, ⟨by repeat (first | (with_reducible first | exact HB.out | apply below_alloc | apply pw_below_drewN | apply below_drew1 | refine below_set ?_ GE218.out) | exact HB.out)⟩⟩
                 ·rw [if_neg c68] at H
                  exact absurd H (by simp)
                ·rw [if_neg c65] at H
                 exact absurd H (by simp)
               ·rw [if_neg c64] at H
                exact absurd H (by simp)
              ·rw [if_neg c63] at H
               exact absurd H (by simp)
             ·rw [if_neg c62] at H
              exact absurd H (by simp)
      ·rw [if_neg c18] at H
       exact absurd H (by simp)
     ·rw [if_neg c17] at H
      exact absurd H (by simp)
    ·rw [if_neg c16] at H
     have c16b0 : decide (x31_1 < (t219.length : Int)) = false := decide_eq_false c16
     clear c16
     simp only [Option.some.injEq, Prod.mk.injEq] at H
     obtain ⟨rfl, rfl⟩ := H
     go_wp2
     go_ret2
     exact ⟨_, by first | rfl | (simp [errW_none, errW_some] <;> rfl) | (simp [*, errW_none, errW_some] <;> rfl), by (with_reducible repeat (first | apply Kd.R_alloc | apply Kd.R_drewN | apply Kd.R_drew)); exact Kd.R_mono HO_12.out (fun _ hk => trivial), by repeat (first | (with_reducible first | exact HB.out | apply below_alloc | apply pw_below_drewN | apply below_drew1 | refine below_set ?_ GE218.out) | exact HB.out)⟩
 ·replace c6 := Bool.eq_false_iff.mpr c6
  subst c6
  have H1 : (some (([] : List ByteArray), false)) = some (r1, r2) := by rw [if_neg (show ¬ (false = true) by decide)] at H; exact H
  clear H
  have H := H1
  clear H1
  simp only [Option.some.injEq, Prod.mk.injEq] at H
  obtain ⟨rfl, rfl⟩ := H
  go_enter Tryz.func18, Tryz.ntmps18
  go_wp2_with (first | ((with_reducible refine gate_callee (f := 21) rfl ?_); refine goesL_ (some 23) rfl rfl Tryz.func21 (by kernel_rfl) rfl #[.string a0] rfl (by (try simp only [List.map_toArray, List.map_cons, List.map_nil]); first | done | rfl | (simp only [List.length_drop, List.length_take]; rfl)) ?_; (with_reducible refine (spec_nuRead.calls k a0 t213 t216 false _ A5.out).mono ?_); rintro e w76 ⟨v214, rfl, ho0, hb⟩; refine ⟨_, rfl, ?_⟩; have n0_ := Aside0.mk (Kd.R_lower ho0 (below_size (by repeat (first | (with_reducible first | exact HB.out | apply below_alloc | apply pw_below_drewN | apply below_drew1) | exact HB.out)))); have n1_ := Aside0.mk (below_step (by repeat (first | (with_reducible first | exact HB.out | apply below_alloc | apply pw_below_drewN | apply below_drew1) | exact HB.out)) hb); clear HB; have HO215 := n0_; have HB := n1_; clear n0_ n1_; (try clear hb); (try clear hb2); (try clear hk); (try clear hi); (try clear ho0)) | ((with_reducible refine gate_dst (N := 10) rfl ?_); refine box_event ?hg (N := 10) ?hd (cs := #[.slice none 0 0, .bool false]) (t := 31) ?hr ?_; (case hd => rfl); (case hg => rfl); (case hr => first | (go_simp; done) | (go_simp; rfl)); intro gb218 hg w77 hbox hb; have n0_ := Aside0.mk (Kd.R_below (by (with_reducible repeat (first | apply Kd.R_alloc | apply Kd.R_drewN | apply Kd.R_drew)); exact HO215.out) hb); have n1_ := Aside0.mk (below_step (by repeat (first | (with_reducible first | exact HB.out | apply below_alloc | apply pw_below_drewN | apply below_drew1) | exact HB.out)) hb); have n2_ := Aside0.mk (hbox); have n3_ := Aside0.mk ((by rw [hg]; exact (below_size (by repeat (first | (with_reducible first | exact HB.out | apply below_alloc | apply pw_below_drewN | apply below_drew1) | exact HB.out))) : w.heap.size ≤ gb218)); have n4_ := Aside0.mk ((by rw [hg]; exact (below_size (by repeat (first | (with_reducible first | exact HB.out | apply below_alloc | apply pw_below_drewN | apply below_drew1) | exact HB.out))) : w.heap.size ≤ gb218)); clear HO215; clear HB; have HO215 := n0_; have HB := n1_; have BK218 := n2_; have GW218 := n3_; have GE218 := n4_; clear n0_ n1_ n2_ n3_ n4_; clear hb hbox hg; obtain ⟨Ao78, co78, eo78⟩ := Kd.R_slice HO215.out; subst eo78; have hcz79_0 : w77.cell? ⟨gb218, 0, none⟩ = some (.slice none 0 0) := (blk_cell BK218.out 0).trans rfl; have hcz79_1 : w77.cell? ⟨gb218, 1, none⟩ = some (.bool false) := (blk_cell BK218.out 1).trans rfl; have hfz79_0 := blk_frozen BK218.out 0; have hfz79_1 := blk_frozen BK218.out 1))
  go_ret2
  exact ⟨_, by first | rfl | (simp [errW_none, errW_some] <;> rfl) | (simp [*, errW_none, errW_some] <;> rfl), by first | exact Kd.R_nil _ _ _ _ _ | exact Kd.N_nil _ _ _ _ _ | exact Kd.V_nil _ _ _ _ _ | exact Kd.Q_nil _ _ _ _ _ | exact Kd.S_nil _ _ _ _ _, by repeat (first | (with_reducible first | exact HB.out | apply below_alloc | apply pw_below_drewN | apply below_drew1 | refine below_set ?_ GE218.out) | exact HB.out)⟩

/-! ### spec_FalseByMove: function 16 -/
def spec_FalseByMove.f (k : Nat) (a0 : ByteArray) : Option (List ByteArray × Bool) := (spec_nuThose.f k a0 1 1 false).bind fun bt275 => (some (bt275.1, bt275.2))
theorem spec_FalseByMove.mono : ∀ a0 k, LeO (spec_FalseByMove.f k a0) (spec_FalseByMove.f (k + 1) a0) := by
 intro a0 k
 unfold spec_FalseByMove.f
 repeat' first
   | (with_reducible exact spec_nuThose.mono _ _ _ _ _)
   | (with_reducible exact LeO.refl _)
   | (with_reducible exact LeO.none _)
   | (with_reducible refine LeO.ite ?_ ?_)
   | (with_reducible refine LeO.bind ?_ (fun _ => ?_))
   | exact spec_nuThose.mono _ _ _ _ _
   | exact LeO.none _
   | refine LeO.ite ?_ ?_
   | refine LeO.bind ?_ (fun _ => ?_)
set_option maxHeartbeats 8000000 in
set_option maxRecDepth 100000 in
theorem spec_FalseByMove.calls (k : Nat) (a0 : ByteArray) (r1 : List ByteArray) (r2 : Bool) (w : World) (h : spec_FalseByMove.f k a0 = some (r1, r2)) :
  Calls Tryz.prog 16 #[.string a0] w fun e w' => ∃ v0_ : Value, e = .returned (.tuple #[v0_, .bool r2]) ∧ Kd.R Kd.string 9 w' w.heap.size (fun _ => True) v0_ r1 ∧ Below w.heap.size w w' := by
 have HB := Aside0.mk (Below.refl w.heap.size w)
 have H : ((spec_nuThose.f k a0 1 1 false).bind fun bt275 => (some (bt275.1, bt275.2))) = some (r1, r2) := h
 clear h
 replace H := Option.bind_eq_some_iff.mp H
 obtain ⟨⟨t275, t276⟩, A20, H⟩ := H
 replace H : (some (t275, t276)) = some (r1, r2) := H
 have A2 := Aside0.mk A20
 clear A20
 simp only [Option.some.injEq, Prod.mk.injEq] at H
 obtain ⟨rfl, rfl⟩ := H
 go_enter Tryz.func16, Tryz.ntmps16
 go_wp2_with (first | ((with_reducible refine gate_callee (f := 18) rfl ?_); refine goesL_ (some 5) rfl rfl Tryz.func18 (by kernel_rfl) rfl #[.string a0, .int .i64 1, .int .i64 1, .bool false] rfl (by (try simp only [List.map_toArray, List.map_cons, List.map_nil]); first | done | rfl | (simp only [List.length_drop, List.length_take]; rfl)) ?_; (with_reducible refine (spec_nuThose.calls k a0 1 1 false t275 t276 _ A2.out).mono ?_); rintro e w3 ⟨v277, rfl, ho0, hb⟩; refine ⟨_, rfl, ?_⟩; have n0_ := Aside0.mk (Kd.R_lower ho0 (below_size (by repeat (first | (with_reducible first | exact HB.out | apply below_alloc | apply pw_below_drewN | apply below_drew1) | exact HB.out)))); have n1_ := Aside0.mk (below_step (by repeat (first | (with_reducible first | exact HB.out | apply below_alloc | apply pw_below_drewN | apply below_drew1) | exact HB.out)) hb); clear HB; have HO278 := n0_; have HB := n1_; clear n0_ n1_; (try clear hb); (try clear hb2); (try clear hk); (try clear hi); (try clear ho0)))
 go_ret2
 exact ⟨_, by first | rfl | (simp [errW_none, errW_some] <;> rfl) | (simp [*, errW_none, errW_some] <;> rfl), by (with_reducible repeat (first | apply Kd.R_alloc | apply Kd.R_drewN | apply Kd.R_drew)); exact HO278.out, by repeat (first | (with_reducible first | exact HB.out | apply below_alloc | apply pw_below_drewN | apply below_drew1) | exact HB.out)⟩

/-! ### impl_within: function 67 -/
def impl_within.f (a0 : Int) (a1 : Int) (a2 : Int) : Option (Bool) := if a1 ≤ a0 then (some (decide (a0 ≤ a2))) else (some false)
set_option maxHeartbeats 8000000 in
set_option maxRecDepth 100000 in
theorem impl_within.calls (a0 : Int) (a1 : Int) (a2 : Int) (r : Bool) (w : World) (h : impl_within.f a0 a1 a2 = some r) :
  Calls Tryz.prog 67 #[.int .i64 a0, .int .i64 a1, .int .i64 a2] w fun e w' => e = .returned (.bool r) ∧ Drawn0 w w' := by
 have H : (if a1 ≤ a0 then (some (decide (a0 ≤ a2))) else (some false)) = some r := h
 clear h
 by_cases c4 : a1 ≤ a0
 ·rw [if_pos c4] at H
  have c4b0 : decide (a1 ≤ a0) = true := decide_eq_true c4
  clear c4
  obtain rfl := Option.some.inj H
  go_enter Tryz.func67, Tryz.ntmps67
  go_wp2
  go_ret
  exact ⟨by first | rfl | (simp; done) | (simp [*]; done), by repeat (first | exact Drawn0.refl _ | apply Drawn0.step)⟩
 ·rw [if_neg c4] at H
  have c4b0 : decide (a1 ≤ a0) = false := decide_eq_false c4
  clear c4
  obtain rfl := Option.some.inj H
  go_enter Tryz.func67, Tryz.ntmps67
  go_wp2
  go_ret
  exact ⟨by first | rfl | (simp; done) | (simp [*]; done), by repeat (first | exact Drawn0.refl _ | apply Drawn0.step)⟩

/-! ### strings_Trim: function 68 -/
open Go.Shelf in
def Tryz.lays160_ren : Go.Shelf.Ren := ⟨fun | 160 => 68 | 232 => 92 | 231 => 91 | 227 => 65 | 234 => 94 | 233 => 93 | 236 => 96 | 235 => 95 | 228 => 66 | 271 => 111 | 151 => 110 | 197 => 109 | 120 => 119 | 152 => 63 | 260 => 118 | 137 => 87 | 119 => 88 | 224 => 89 | 225 => 90 | 217 => 107 | 266 => 116 | n => n, fun | 9 => 9 | 4 => 4 | 3 => 3 | 5 => 5 | 117 => 83 | 116 => 82 | 0 => 0 | 124 => 110 | 21 => 21 | 105 => 125 | 46 => 75 | 119 => 137 | 139 => 140 | 138 => 139 | n => n, fun | 3 => 4 | 4 => 5 | n => n⟩
open Go.Shelf in
theorem Tryz.lays160 : Go.Proofs.Lays.n160 Tryz.prog Tryz.lays160_ren := {
 mixed := by kernel_rfl,
 f119 := Tryz.func88.trans (congrArg some (by kernel_rfl)),
 f120 := Tryz.func119.trans (congrArg some (by kernel_rfl)),
 f137 := Tryz.func87.trans (congrArg some (by kernel_rfl)),
 f151 := Tryz.func110.trans (congrArg some (by kernel_rfl)),
 f152 := Tryz.func63.trans (congrArg some (by kernel_rfl)),
 f160 := Tryz.func68.trans (congrArg some (by kernel_rfl)),
 f197 := Tryz.func109.trans (congrArg some (by kernel_rfl)),
 f217 := Tryz.func107.trans (congrArg some (by kernel_rfl)),
 f224 := Tryz.func89.trans (congrArg some (by kernel_rfl)),
 f225 := Tryz.func90.trans (congrArg some (by kernel_rfl)),
 f227 := Tryz.func65.trans (congrArg some (by kernel_rfl)),
 f228 := Tryz.func66.trans (congrArg some (by kernel_rfl)),
 f231 := Tryz.func91.trans (congrArg some (by kernel_rfl)),
 f232 := Tryz.func92.trans (congrArg some (by kernel_rfl)),
 f233 := Tryz.func93.trans (congrArg some (by kernel_rfl)),
 f234 := Tryz.func94.trans (congrArg some (by kernel_rfl)),
 f235 := Tryz.func95.trans (congrArg some (by kernel_rfl)),
 f236 := Tryz.func96.trans (congrArg some (by kernel_rfl)),
 f260 := Tryz.func118.trans (congrArg some (by kernel_rfl)),
 f266 := Tryz.func116.trans (congrArg some (by kernel_rfl)),
 f271 := Tryz.func111.trans (congrArg some (by kernel_rfl)),
 t0 := Tryz.underlying0,
 a0 := Tryz.isAgg0,
 z0 := Tryz.sizeOf0,
 v0 := Tryz.zeroValue0,
 t3 := Tryz.underlying3,
 a3 := Tryz.isAgg3,
 z3 := Tryz.sizeOf3,
 v3 := Tryz.zeroValue3,
 t4 := Tryz.underlying4,
 a4 := Tryz.isAgg4,
 z4 := Tryz.sizeOf4,
 v4 := Tryz.zeroValue4,
 t5 := Tryz.underlying5,
 a5 := Tryz.isAgg5,
 z5 := Tryz.sizeOf5,
 v5 := Tryz.zeroValue5,
 t9 := Tryz.underlying9,
 a9 := Tryz.isAgg9,
 z9 := Tryz.sizeOf9,
 v9 := Tryz.zeroValue9,
 t21 := Tryz.underlying21,
 a21 := Tryz.isAgg21,
 z21 := Tryz.sizeOf21,
 v21 := Tryz.zeroValue21,
 t46 := Tryz.underlying75,
 a46 := Tryz.isAgg75,
 z46 := Tryz.sizeOf75,
 v46 := Tryz.zeroValue75,
 t105 := Tryz.underlying125,
 a105 := Tryz.isAgg125,
 z105 := Tryz.sizeOf125,
 v105 := Tryz.zeroValue125,
 t116 := Tryz.underlying82,
 a116 := Tryz.isAgg82,
 z116 := Tryz.sizeOf82,
 t117 := Tryz.underlying83,
 a117 := Tryz.isAgg83,
 z117 := Tryz.sizeOf83,
 v117 := Tryz.zeroValue83,
 t119 := Tryz.underlying137,
 a119 := Tryz.isAgg137,
 z119 := Tryz.sizeOf137,
 t124 := Tryz.underlying110,
 a124 := Tryz.isAgg110,
 z124 := Tryz.sizeOf110,
 v124 := Tryz.zeroValue110,
 t138 := Tryz.underlying139,
 a138 := Tryz.isAgg139,
 z138 := Tryz.sizeOf139,
 v138 := Tryz.zeroValue139,
 t139 := Tryz.underlying140,
 a139 := Tryz.isAgg140,
 z139 := Tryz.sizeOf140,
 v139 := Tryz.zeroValue140,
 g3 := by kernel_rfl,
 g4 := by kernel_rfl }
/-- At an ASCII cutset: the bytes of the set go, from both ends. -/
def strings_Trim.f (a0 : ByteArray) (a1 : ByteArray) : Option ByteArray := if a0.size ≤ 9223372036854775807 ∧ a1.size < 4294967281 ∧ (a1.data.toList.all fun b => decide (b.toNat < 128)) = true then some ⟨(Go.Lib.trimS a0.data.toList a1.data.toList).toArray⟩ else none
theorem strings_Trim.calls (a0 : ByteArray) (a1 : ByteArray) (r : ByteArray) (w : World) (h : strings_Trim.f a0 a1 = some r) :
  Calls Tryz.prog 68 #[.string a0, .string a1] w fun e w' => e = .returned (.string r) ∧ Below w.heap.size w w' := by
 unfold strings_Trim.f at h
 by_cases hc : a0.size ≤ 9223372036854775807 ∧ a1.size < 4294967281 ∧ (a1.data.toList.all fun b => decide (b.toNat < 128)) = true
 ·rw [if_pos hc] at h
  obtain rfl := Option.some.inj h
  exact Go.Proofs.Any.strings_Trim_laid Tryz.lays160 (by kernel_rfl) a0 a1 w hc.1 hc.2.1 (fun j b hb => of_decide_eq_true (List.all_eq_true.1 hc.2.2 b (List.mem_of_getElem? hb)))
 ·rw [if_neg hc] at h; cases h

/-! ### impl_isNumeral: function 52 -/
def impl_isNumeral.f (a0 : ByteArray) (a1 : Int) : Option (Bool) := (impl_within.f (a0.size : Int) 1 a1).bind fun t279 => (if t279 = true then ((strings_Trim.f a0 (⟨#[48, 49, 50, 51, 52, 53, 54, 55, 56, 57]⟩ : ByteArray)).bind fun t280 => (some (t280.toList == ([] : List UInt8)))) else (some false))
set_option maxHeartbeats 8000000 in
set_option maxRecDepth 100000 in
theorem impl_isNumeral.calls (a0 : ByteArray) (a1 : Int) (r : Bool) (w : World) (h : impl_isNumeral.f a0 a1 = some r) :
  Calls Tryz.prog 52 #[.string a0, .int .i64 a1] w fun e w' => e = .returned (.bool r) ∧ Below w.heap.size w w' := by
 have HB := Aside0.mk (Below.refl w.heap.size w)
 have H : ((impl_within.f (a0.size : Int) 1 a1).bind fun t279 => (if t279 = true then ((strings_Trim.f a0 (⟨#[48, 49, 50, 51, 52, 53, 54, 55, 56, 57]⟩ : ByteArray)).bind fun t280 => (some (t280.toList == ([] : List UInt8)))) else (some false))) = some r := h
 clear h
 replace H := Option.bind_eq_some_iff.mp H
 obtain ⟨t279, A30, H⟩ := H
 replace H : (if t279 = true then ((strings_Trim.f a0 (⟨#[48, 49, 50, 51, 52, 53, 54, 55, 56, 57]⟩ : ByteArray)).bind fun t280 => (some (t280.toList == ([] : List UInt8)))) else (some false)) = some r := H
 have A3 := Aside0.mk A30
 clear A30
 by_cases c4 : t279 = true
 ·subst c4
  have H1 : ((strings_Trim.f a0 (⟨#[48, 49, 50, 51, 52, 53, 54, 55, 56, 57]⟩ : ByteArray)).bind fun t280 => (some (t280.toList == ([] : List UInt8)))) = some r := by rw [if_pos rfl] at H; exact H
  clear H
  have H := H1
  clear H1
  replace H := Option.bind_eq_some_iff.mp H
  obtain ⟨t280, A50, H⟩ := H
  replace H : (some (t280.toList == ([] : List UInt8))) = some r := H
  have A5 := Aside0.mk A50
  clear A50
  obtain rfl := Option.some.inj H
  go_enter Tryz.func52, Tryz.ntmps52
  go_wp2_with (first | ((with_reducible refine gate_callee (f := 67) rfl ?_); refine goesL_ (some 8) rfl rfl Tryz.func67 (by kernel_rfl) rfl #[.int .i64 (a0.size : Int), .int .i64 1, .int .i64 a1] rfl (by (try simp only [List.map_toArray, List.map_cons, List.map_nil]); first | done | rfl | (simp only [List.length_drop, List.length_take]; rfl)) ?_; (with_reducible refine (impl_within.calls (a0.size : Int) 1 a1 true _ A3.out).mono ?_); rintro e w' ⟨rfl, ⟨nd, rfl⟩⟩; refine ⟨_, rfl, ?_⟩) | (go_at_call 68; (with_reducible refine (strings_Trim.calls a0 (⟨#[48, 49, 50, 51, 52, 53, 54, 55, 56, 57]⟩ : ByteArray) t280 _ A5.out).mono ?_); rintro e w6 ⟨rfl, hb⟩; have n0_ := Aside0.mk (below_step (by repeat (first | (with_reducible first | exact HB.out | apply below_alloc | apply pw_below_drewN | apply below_drew1) | exact HB.out)) hb); clear HB; have HB := n0_; clear n0_; (try clear hb); (try clear hb2); (try clear hk); (try clear hi)))
  go_ret
  exact ⟨by first | rfl | (simp [errW_none, errW_some] <;> rfl) | (simp [*, errW_none, errW_some] <;> rfl), by repeat (first | (with_reducible first | exact HB.out | apply below_alloc | apply pw_below_drewN | apply below_drew1) | exact HB.out)⟩
 ·replace c4 := Bool.eq_false_iff.mpr c4
  subst c4
  have H1 : (some false) = some r := by rw [if_neg (show ¬ (false = true) by decide)] at H; exact H
  clear H
  have H := H1
  clear H1
  obtain rfl := Option.some.inj H
  go_enter Tryz.func52, Tryz.ntmps52
  go_wp2_with (first | ((with_reducible refine gate_callee (f := 67) rfl ?_); refine goesL_ (some 8) rfl rfl Tryz.func67 (by kernel_rfl) rfl #[.int .i64 (a0.size : Int), .int .i64 1, .int .i64 a1] rfl (by (try simp only [List.map_toArray, List.map_cons, List.map_nil]); first | done | rfl | (simp only [List.length_drop, List.length_take]; rfl)) ?_; (with_reducible refine (impl_within.calls (a0.size : Int) 1 a1 false _ A3.out).mono ?_); rintro e w' ⟨rfl, ⟨nd, rfl⟩⟩; refine ⟨_, rfl, ?_⟩))
  go_ret
  exact ⟨by first | rfl | (simp [errW_none, errW_some] <;> rfl) | (simp [*, errW_none, errW_some] <;> rfl), by repeat (first | (with_reducible first | exact HB.out | apply below_alloc | apply pw_below_drewN | apply below_drew1) | exact HB.out)⟩

end Go.Proofs.YtmjlmmfhcabnfaaGreatDoor.Q
