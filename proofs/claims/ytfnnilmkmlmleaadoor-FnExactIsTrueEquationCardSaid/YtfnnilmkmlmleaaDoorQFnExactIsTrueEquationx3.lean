-- written by a program of this session, pm.py, for this claim
-- half the indentation
import Derived.Test.YtfnnilmkmlmleaaDoorQFnExactIsTrueEquationx0
import Derived.Test.YtfnnilmkmlmleaaDoorQFnExactIsTrueEquationx1
import Derived.Test.YtfnnilmkmlmleaaDoorQFnExactIsTrueEquationx2
namespace Go.Proofs.YtfnnilmkmlmleaaDoor.Q
open Go.RowKit Go.Proofs.YtfnnilmkmlmleaaDoorW.PrintWords Go.Proofs.YtfnnilmkmlmleaaDoorW.PrintLast Go.Proofs.YtfnnilmkmlmleaaDoorW.PrintMore
attribute [local go_sem] max2_int min2_int max_two min_two max_three min_three max_four min_four   -- for this text's walks alone
set_option linter.unusedVariables false
set_option linter.unusedSimpArgs false

/-! ### strconv_Atoi: function 53 -/
open Go.Shelf in
def Tryd.lays172_ren : Go.Shelf.Ren := ⟨fun | 172 => 53 | 244 => 70 | 245 => 71 | 247 => 87 | 279 => 88 | 280 => 89 | 281 => 90 | 282 => 91 | 287 => 102 | 316 => 103 | 171 => 105 | 205 => 104 | 321 => 118 | 322 => 119 | 243 => 120 | 246 => 129 | 283 => 130 | 284 => 131 | 285 => 132 | 286 => 133 | 129 => 135 | 317 => 134 | 318 => 136 | 319 => 137 | 320 => 138 | 337 => 139 | 338 => 140 | n => n, fun | 9 => 9 | 3 => 3 | 75 => 82 | 76 => 83 | 4 => 4 | 5 => 5 | 167 => 123 | 37 => 35 | 0 => 0 | 85 => 124 | 2 => 2 | 168 => 126 | 53 => 143 | 175 => 144 | 46 => 106 | 210 => 147 | 127 => 165 | 145 => 168 | 143 => 166 | 21 => 21 | 171 => 173 | 173 => 176 | 212 => 179 | 51 => 67 | 20 => 20 | 213 => 180 | 232 => 183 | 233 => 184 | 80 => 185 | n => n, fun | 15 => 2 | 16 => 3 | 17 => 6 | 18 => 7 | 19 => 8 | n => n⟩
open Go.Shelf in
theorem Tryd.lays172 : Go.Proofs.Lays.n172 Tryd.prog Tryd.lays172_ren := {
 mixed := by kernel_rfl,
 f129 := Tryd.func135.trans (congrArg some (by kernel_rfl)),
 f171 := Tryd.func105.trans (congrArg some (by kernel_rfl)),
 f172 := Tryd.func53.trans (congrArg some (by kernel_rfl)),
 f205 := Tryd.func104.trans (congrArg some (by kernel_rfl)),
 f243 := Tryd.func120.trans (congrArg some (by kernel_rfl)),
 f244 := Tryd.func70.trans (congrArg some (by kernel_rfl)),
 f245 := Tryd.func71.trans (congrArg some (by kernel_rfl)),
 f246 := Tryd.func129.trans (congrArg some (by kernel_rfl)),
 f247 := Tryd.func87.trans (congrArg some (by kernel_rfl)),
 f279 := Tryd.func88.trans (congrArg some (by kernel_rfl)),
 f280 := Tryd.func89.trans (congrArg some (by kernel_rfl)),
 f281 := Tryd.func90.trans (congrArg some (by kernel_rfl)),
 f282 := Tryd.func91.trans (congrArg some (by kernel_rfl)),
 f283 := Tryd.func130.trans (congrArg some (by kernel_rfl)),
 f284 := Tryd.func131.trans (congrArg some (by kernel_rfl)),
 f285 := Tryd.func132.trans (congrArg some (by kernel_rfl)),
 f286 := Tryd.func133.trans (congrArg some (by kernel_rfl)),
 f287 := Tryd.func102.trans (congrArg some (by kernel_rfl)),
 f316 := Tryd.func103.trans (congrArg some (by kernel_rfl)),
 f317 := Tryd.func134.trans (congrArg some (by kernel_rfl)),
 f318 := Tryd.func136.trans (congrArg some (by kernel_rfl)),
 f319 := Tryd.func137.trans (congrArg some (by kernel_rfl)),
 f320 := Tryd.func138.trans (congrArg some (by kernel_rfl)),
 f321 := Tryd.func118.trans (congrArg some (by kernel_rfl)),
 f322 := Tryd.func119.trans (congrArg some (by kernel_rfl)),
 f337 := Tryd.func139.trans (congrArg some (by kernel_rfl)),
 f338 := Tryd.func140.trans (congrArg some (by kernel_rfl)),
 t0 := Tryd.underlying0,
 a0 := Tryd.isAgg0,
 z0 := Tryd.sizeOf0,
 v0 := Tryd.zeroValue0,
 t2 := Tryd.underlying2,
 a2 := Tryd.isAgg2,
 z2 := Tryd.sizeOf2,
 v2 := Tryd.zeroValue2,
 t3 := Tryd.underlying3,
 a3 := Tryd.isAgg3,
 z3 := Tryd.sizeOf3,
 v3 := Tryd.zeroValue3,
 t4 := Tryd.underlying4,
 a4 := Tryd.isAgg4,
 z4 := Tryd.sizeOf4,
 v4 := Tryd.zeroValue4,
 t5 := Tryd.underlying5,
 a5 := Tryd.isAgg5,
 z5 := Tryd.sizeOf5,
 v5 := Tryd.zeroValue5,
 t9 := Tryd.underlying9,
 a9 := Tryd.isAgg9,
 z9 := Tryd.sizeOf9,
 v9 := Tryd.zeroValue9,
 t20 := Tryd.underlying20,
 a20 := Tryd.isAgg20,
 z20 := Tryd.sizeOf20,
 v20 := Tryd.zeroValue20,
 t21 := Tryd.underlying21,
 a21 := Tryd.isAgg21,
 z21 := Tryd.sizeOf21,
 v21 := Tryd.zeroValue21,
 t37 := Tryd.underlying35,
 a37 := Tryd.isAgg35,
 z37 := Tryd.sizeOf35,
 v37 := Tryd.zeroValue35,
 t46 := Tryd.underlying106,
 a46 := Tryd.isAgg106,
 z46 := Tryd.sizeOf106,
 v46 := Tryd.zeroValue106,
 t51 := Tryd.underlying67,
 a51 := Tryd.isAgg67,
 z51 := Tryd.sizeOf67,
 v51 := Tryd.zeroValue67,
 t53 := Tryd.underlying143,
 a53 := Tryd.isAgg143,
 z53 := Tryd.sizeOf143,
 v53 := Tryd.zeroValue143,
 t75 := Tryd.underlying82,
 a75 := Tryd.isAgg82,
 z75 := Tryd.sizeOf82,
 v75 := Tryd.zeroValue82,
 t76 := Tryd.underlying83,
 a76 := Tryd.isAgg83,
 z76 := Tryd.sizeOf83,
 v76 := Tryd.zeroValue83,
 t85 := Tryd.underlying124,
 a85 := Tryd.isAgg124,
 z85 := Tryd.sizeOf124,
 v85 := Tryd.zeroValue124,
 t127 := Tryd.underlying165,
 a127 := Tryd.isAgg165,
 z127 := Tryd.sizeOf165,
 v127 := Tryd.zeroValue165,
 t143 := Tryd.underlying166,
 a143 := Tryd.isAgg166,
 z143 := Tryd.sizeOf166,
 v143 := Tryd.zeroValue166,
 t145 := Tryd.underlying168,
 a145 := Tryd.isAgg168,
 z145 := Tryd.sizeOf168,
 v145 := Tryd.zeroValue168,
 t167 := Tryd.underlying123,
 a167 := Tryd.isAgg123,
 z167 := Tryd.sizeOf123,
 v167 := Tryd.zeroValue123,
 t168 := Tryd.underlying126,
 a168 := Tryd.isAgg126,
 z168 := Tryd.sizeOf126,
 v168 := Tryd.zeroValue126,
 t171 := Tryd.underlying173,
 a171 := Tryd.isAgg173,
 z171 := Tryd.sizeOf173,
 v171 := Tryd.zeroValue173,
 t173 := Tryd.underlying176,
 a173 := Tryd.isAgg176,
 z173 := Tryd.sizeOf176,
 v173 := Tryd.zeroValue176,
 t175 := Tryd.underlying144,
 a175 := Tryd.isAgg144,
 z175 := Tryd.sizeOf144,
 v175 := Tryd.zeroValue144,
 t210 := Tryd.underlying147,
 a210 := Tryd.isAgg147,
 z210 := Tryd.sizeOf147,
 v210 := Tryd.zeroValue147,
 t212 := Tryd.underlying179,
 a212 := Tryd.isAgg179,
 z212 := Tryd.sizeOf179,
 v212 := Tryd.zeroValue179,
 t213 := Tryd.underlying180,
 a213 := Tryd.isAgg180,
 z213 := Tryd.sizeOf180,
 t232 := Tryd.underlying183,
 a232 := Tryd.isAgg183,
 z232 := Tryd.sizeOf183,
 v232 := Tryd.zeroValue183,
 t233 := Tryd.underlying184,
 a233 := Tryd.isAgg184,
 z233 := Tryd.sizeOf184,
 v233 := Tryd.zeroValue184,
 g15 := by kernel_rfl,
 g16 := by kernel_rfl,
 g17 := by kernel_rfl,
 g18 := by kernel_rfl,
 g19 := by kernel_rfl }
def strconv_Atoi.f (a0 : ByteArray) : Option (Int × Option Int) := if a0.size ≤ 18 then (Go.Lib.atoi a0.data.toList).bind fun n => some (n, none) else none
theorem strconv_Atoi.calls (a0 : ByteArray) (r1 : Int) (r2 : Option Int) (w : World) (h : strconv_Atoi.f a0 = some (r1, r2)) :
  Calls Tryd.prog 53 #[.string a0] w fun e w' => e = .returned (.tuple #[.int .i64 r1, errW r2]) ∧ Below w.heap.size w w' := by
 unfold strconv_Atoi.f at h
 by_cases hs : a0.size ≤ 18
 ·rw [if_pos hs] at h
  obtain ⟨m, hm, h⟩ := Option.bind_eq_some_iff.mp h
  obtain ⟨rfl, rfl⟩ := Prod.mk.inj (Option.some.inj h)
  refine (Any.strconv_Atoi Tryd.lays172 a0 m hs hm w).mono fun e w' hq => ?_
  obtain ⟨rfl, t, rfl⟩ := hq
  exact ⟨rfl, rfl, rfl, rfl, by rw [Go.Lib.bytesWorld_size]; omega, fun i hi => Go.Lib.bytesWorld_at_old w _ t i (by omega)⟩
 ·rw [if_neg hs] at h; cases h

/-! ### impl_isTrue: function 40 -/
def impl_isTrue.l0 : Nat → Int → List Int → List ByteArray → Int → Int → Option (Bool)
 | 0, _, _, _, _, _ => none
 | k + 1, x4, x6, x18, x19, x20 => if x20 < x19 then (if 0 ≤ x20 then (if x20 < (x18.length : Int) then ((strconv_Atoi.f (rdOf ByteArray.empty x18 x20)).bind fun bt138 => (if x6.length < 17592186044416 then (impl_isTrue.l0 k x4 (x6 ++ [bt138.1]) x18 x19 (wrap64 (x20 + 1))) else (none))) else (none)) else (none)) else (if x4 = 43 then (if 0 < (x6.length : Int) then (if 1 < (x6.length : Int) then (if 2 < (x6.length : Int) then (some ((wrap64 ((rd x6 0) + (rd x6 1))) == (rd x6 2))) else (none)) else (none)) else (none)) else (if 0 < (x6.length : Int) then (if 1 < (x6.length : Int) then (if 2 < (x6.length : Int) then (some ((wrap64 ((rd x6 0) - (rd x6 1))) == (rd x6 2))) else (none)) else (none)) else (none)))
def impl_isTrue.f (k : Nat) (a0 : ByteArray) : Option (Bool) := (impl_numerals.f a0).bind fun bt129 => (impl_isTrue.l0 k bt129.2.1 (([] : List Int)) bt129.1 (bt129.1.length : Int) 0)
theorem impl_isTrue.mono_l : ∀ k, (∀ y0 y1 y2 y3 y4, LeO (impl_isTrue.l0 k y0 y1 y2 y3 y4) (impl_isTrue.l0 (k + 1) y0 y1 y2 y3 y4))
 | 0 => fun _ _ _ _ _ r h => by simp [impl_isTrue.l0] at h
 | k + 1 => by
  have ih0 := impl_isTrue.mono_l k
  ·intro y0 y1 y2 y3 y4
   unfold impl_isTrue.l0
   repeat' first
   | (with_reducible exact ih0 _ _ _ _ _)
   | (with_reducible exact LeO.refl _)
   | (with_reducible exact LeO.none _)
   | (with_reducible refine LeO.ite ?_ ?_)
   | (with_reducible refine LeO.bind ?_ (fun _ => ?_))
   | exact ih0 _ _ _ _ _
   | exact LeO.none _
   | refine LeO.ite ?_ ?_
   | refine LeO.bind ?_ (fun _ => ?_)
theorem impl_isTrue.mono : ∀ a0 k, LeO (impl_isTrue.f k a0) (impl_isTrue.f (k + 1) a0) := by
 intro a0 k
 have ih0 := impl_isTrue.mono_l k
 unfold impl_isTrue.f
 repeat' first
   | (with_reducible exact ih0 _ _ _ _ _)
   | (with_reducible exact LeO.refl _)
   | (with_reducible exact LeO.none _)
   | (with_reducible refine LeO.ite ?_ ?_)
   | (with_reducible refine LeO.bind ?_ (fun _ => ?_))
   | exact ih0 _ _ _ _ _
   | exact LeO.none _
   | refine LeO.ite ?_ ?_
   | refine LeO.bind ?_ (fun _ => ?_)
set_option maxHeartbeats 8000000 in
set_option maxRecDepth 100000 in
theorem impl_isTrue.calls (k : Nat) (a0 : ByteArray) (r : Bool) (w : World) (h : impl_isTrue.f k a0 = some r) :
  Calls Tryd.prog 40 #[.string a0] w fun e w' => e = .returned (.bool r) ∧ Below w.heap.size w w' := by
 have HB := Aside0.mk (Below.refl w.heap.size w)
 have H : ((impl_numerals.f a0).bind fun bt129 => (impl_isTrue.l0 k bt129.2.1 (([] : List Int)) bt129.1 (bt129.1.length : Int) 0)) = some r := h
 clear h
 replace H := Option.bind_eq_some_iff.mp H
 obtain ⟨⟨t129, t130, t131⟩, A20, H⟩ := H
 replace H : (impl_isTrue.l0 k t130 (([] : List Int)) t129 (t129.length : Int) 0) = some r := H
 have A2 := Aside0.mk A20
 clear A20
 obtain ⟨y134, hy134⟩ : ∃ y_ : List Int, y_ = (([] : List Int)) := ⟨_, rfl⟩
 replace H : (impl_isTrue.l0 k t130 y134 t129 (t129.length : Int) 0) = some r := by first | (rw [hy134]; with_reducible exact H) | (have H2_ := (Option.bind_some _ _).symm.trans H; rw [hy134]; with_reducible exact H2_) | (have H2_ := (Option.bind_some _ _).symm.trans H; with_reducible exact H2_) | with_reducible exact H | (rw [hy134]; exact H) | exact H
 have Ny134 := Aside0.mk hy134
 clear hy134
 have H' := Aside0.mk H
 clear H
 go_enter Tryd.func40, Tryd.ntmps40
 go_wp2_with (first | (go_at_call 31; (with_reducible refine (impl_numerals.calls a0 t129 t130 t131 _ A2.out).mono ?_); rintro e w3 ⟨v132, rfl, ho0, hb⟩; have n0_ := Aside0.mk (Kd.R_lower ho0 (below_size (by repeat (first | (with_reducible first | exact HB.out | apply below_alloc | apply pw_below_drewN | apply below_drew1) | exact HB.out)))); have n1_ := Aside0.mk (below_step (by repeat (first | (with_reducible first | exact HB.out | apply below_alloc | apply pw_below_drewN | apply below_drew1) | exact HB.out)) hb); clear HB; have HO133 := n0_; have HB := n1_; clear n0_ n1_; (try clear hb); (try clear hb2); (try clear hk); (try clear hi); (try clear ho0)) | ((with_reducible refine gate_dst (N := 17) rfl ?_); refine Kd.R_lit (Kd.int .i64) _ 3 ?hg (N := 17) ?hd (xs := ([] : List Int)) (inner := []) (ok := fun _ => True) (okp := fun _ => True) ?hr ?hp (fun _ hk => hk) trivial (Below.refl _ _) (Nat.le_refl _) (by simp) ?_; (case hd => rfl); (case hg => rfl); (case hr => first | (go_simp; done) | (go_simp; rfl)); (case hp => exact (Reps.none _ _)); intro v135 w4 ho5 hb hg_ hnew_; clear hg_ hnew_; (first | rw [← Ny134.out] at ho5 | (simp only [Int.reduceToNat] at ho5; rw [← Ny134.out] at ho5)); have n0_ := Aside0.mk (Kd.R_below (by (with_reducible repeat (first | apply Kd.R_alloc | apply Kd.R_drewN | apply Kd.R_drew)); exact HO133.out) hb); have n1_ := Aside0.mk (Kd.R_lower ho5 (below_size (by repeat (first | (with_reducible first | exact HB.out | apply below_alloc | apply pw_below_drewN | apply below_drew1) | exact HB.out)))); have n2_ := Aside0.mk (below_step (by repeat (first | (with_reducible first | exact HB.out | apply below_alloc | apply pw_below_drewN | apply below_drew1) | exact HB.out)) hb); clear HO133; clear HB; have HO133 := n0_; have HO136 := n1_; have HB := n2_; clear n0_ n1_ n2_; clear hb ho5; obtain ⟨Ao6, co6, eo6⟩ := Kd.R_slice HO133.out; subst eo6))
 repeat (go_quiet (first | (go_at_call 31; (with_reducible refine (impl_numerals.calls a0 t129 t130 t131 _ A2.out).mono ?_); rintro e w3 ⟨v132, rfl, ho0, hb⟩; have n0_ := Aside0.mk (Kd.R_lower ho0 (below_size (by repeat (first | (with_reducible first | exact HB.out | apply below_alloc | apply pw_below_drewN | apply below_drew1) | exact HB.out)))); have n1_ := Aside0.mk (below_step (by repeat (first | (with_reducible first | exact HB.out | apply below_alloc | apply pw_below_drewN | apply below_drew1) | exact HB.out)) hb); clear HB; have HO133 := n0_; have HB := n1_; clear n0_ n1_; (try clear hb); (try clear hb2); (try clear hk); (try clear hi); (try clear ho0)) | ((with_reducible refine gate_dst (N := 17) rfl ?_); refine Kd.R_lit (Kd.int .i64) _ 3 ?hg (N := 17) ?hd (xs := ([] : List Int)) (inner := []) (ok := fun _ => True) (okp := fun _ => True) ?hr ?hp (fun _ hk => hk) trivial (Below.refl _ _) (Nat.le_refl _) (by simp) ?_; (case hd => rfl); (case hg => rfl); (case hr => first | (go_simp; done) | (go_simp; rfl)); (case hp => exact (Reps.none _ _)); intro v135 w4 ho5 hb hg_ hnew_; clear hg_ hnew_; (first | rw [← Ny134.out] at ho5 | (simp only [Int.reduceToNat] at ho5; rw [← Ny134.out] at ho5)); have n0_ := Aside0.mk (Kd.R_below (by (with_reducible repeat (first | apply Kd.R_alloc | apply Kd.R_drewN | apply Kd.R_drew)); exact HO133.out) hb); have n1_ := Aside0.mk (Kd.R_lower ho5 (below_size (by repeat (first | (with_reducible first | exact HB.out | apply below_alloc | apply pw_below_drewN | apply below_drew1) | exact HB.out)))); have n2_ := Aside0.mk (below_step (by repeat (first | (with_reducible first | exact HB.out | apply below_alloc | apply pw_below_drewN | apply below_drew1) | exact HB.out)) hb); clear HO133; clear HB; have HO133 := n0_; have HO136 := n1_; have HB := n2_; clear n0_ n1_ n2_; clear hb ho5; obtain ⟨Ao6, co6, eo6⟩ := Kd.R_slice HO133.out; subst eo6)); try go_wp2_with (first | (go_at_call 31; (with_reducible refine (impl_numerals.calls a0 t129 t130 t131 _ A2.out).mono ?_); rintro e w3 ⟨v132, rfl, ho0, hb⟩; have n0_ := Aside0.mk (Kd.R_lower ho0 (below_size (by repeat (first | (with_reducible first | exact HB.out | apply below_alloc | apply pw_below_drewN | apply below_drew1) | exact HB.out)))); have n1_ := Aside0.mk (below_step (by repeat (first | (with_reducible first | exact HB.out | apply below_alloc | apply pw_below_drewN | apply below_drew1) | exact HB.out)) hb); clear HB; have HO133 := n0_; have HB := n1_; clear n0_ n1_; (try clear hb); (try clear hb2); (try clear hk); (try clear hi); (try clear ho0)) | ((with_reducible refine gate_dst (N := 17) rfl ?_); refine Kd.R_lit (Kd.int .i64) _ 3 ?hg (N := 17) ?hd (xs := ([] : List Int)) (inner := []) (ok := fun _ => True) (okp := fun _ => True) ?hr ?hp (fun _ hk => hk) trivial (Below.refl _ _) (Nat.le_refl _) (by simp) ?_; (case hd => rfl); (case hg => rfl); (case hr => first | (go_simp; done) | (go_simp; rfl)); (case hp => exact (Reps.none _ _)); intro v135 w4 ho5 hb hg_ hnew_; clear hg_ hnew_; (first | rw [← Ny134.out] at ho5 | (simp only [Int.reduceToNat] at ho5; rw [← Ny134.out] at ho5)); have n0_ := Aside0.mk (Kd.R_below (by (with_reducible repeat (first | apply Kd.R_alloc | apply Kd.R_drewN | apply Kd.R_drew)); exact HO133.out) hb); have n1_ := Aside0.mk (Kd.R_lower ho5 (below_size (by repeat (first | (with_reducible first | exact HB.out | apply below_alloc | apply pw_below_drewN | apply below_drew1) | exact HB.out)))); have n2_ := Aside0.mk (below_step (by repeat (first | (with_reducible first | exact HB.out | apply below_alloc | apply pw_below_drewN | apply below_drew1) | exact HB.out)) hb); clear HO133; clear HB; have HO133 := n0_; have HO136 := n1_; have HB := n2_; clear n0_ n1_ n2_; clear hb ho5; obtain ⟨Ao6, co6, eo6⟩ := Kd.R_slice HO133.out; subst eo6)))
 go_loopg [6, 20] k (fun kq v6 v20 w' => ∃ (x6_1 : List Int) (x20_1 : Int), v20 = .int .i64 x20_1 ∧ Aside0 (impl_isTrue.l0 kq t130 x6_1 t129 (t129.length : Int) x20_1 = some r) ∧ Aside0 (kq ≤ k) ∧ Aside0 (Kd.R (Kd.int .i64) 3 w' w.heap.size (fun _ => True) v6 x6_1) ∧ Aside0 (Kd.R Kd.string 9 w' w.heap.size (fun _ => True) (.slice Ao6 t129.length co6) t129) ∧ Aside0 (Below w.heap.size w w'))
 case atStart => exact ⟨(y134), (0), (by first | rfl | (simp; done) | (simp [*]; done)), H', ⟨Nat.le_refl _⟩, ⟨by (with_reducible repeat (first | apply Kd.R_alloc | apply Kd.R_drewN | apply Kd.R_drew)); exact HO136.out⟩, ⟨by (with_reducible repeat (first | apply Kd.R_alloc | apply Kd.R_drewN | apply Kd.R_drew)); exact HO133.out⟩, ⟨by repeat (first | (with_reducible first | exact HB.out | apply below_alloc | apply pw_below_drewN | apply below_drew1) | exact HB.out)⟩⟩
 case round =>
  clear H'
  try clear p2
  try clear c4
  obtain ⟨x6_1, x20_1, rfl, HA, HK1, HO_6, HO_18, HB⟩ := hrel
  cases gk with
  | zero => exact absurd HA.out (by simp [impl_isTrue.l0])
  | succ k1 =>
   have H := HA.out
   clear HA
   simp only [impl_isTrue.l0] at H
   by_cases c7 : x20_1 < (t129.length : Int)
   ·rw [if_pos c7] at H
    have c7b0 : decide (x20_1 < (t129.length : Int)) = true := decide_eq_true c7
    clear c7
    by_cases c8 : 0 ≤ x20_1
    ·rw [if_pos c8] at H
     have c8b0 : decide (0 ≤ x20_1) = true := decide_eq_true c8
     clear c8
     by_cases c9 : x20_1 < (t129.length : Int)
     ·rw [if_pos c9] at H
      have c9b0 : decide (x20_1 < (t129.length : Int)) = true := decide_eq_true c9
      clear c9
      replace H := Option.bind_eq_some_iff.mp H
      obtain ⟨⟨t138, t139⟩, A100, H⟩ := H
      replace H : (if x6_1.length < 17592186044416 then (impl_isTrue.l0 k1 t130 (x6_1 ++ [t138]) t129 (t129.length : Int) (wrap64 (x20_1 + 1))) else (none)) = some r := H
      have A10 := Aside0.mk A100
      clear A100
      by_cases c11 : x6_1.length < 17592186044416
      ·rw [if_pos c11] at H
       have LMc11 := Aside0.mk c11
       clear c11
       obtain ⟨y140, hy140⟩ : ∃ y_ : List Int, y_ = (x6_1 ++ [t138]) := ⟨_, rfl⟩
       replace H : (impl_isTrue.l0 k1 t130 y140 t129 (t129.length : Int) (wrap64 (x20_1 + 1))) = some r := by first | (rw [hy140]; with_reducible exact H) | (have H2_ := (Option.bind_some _ _).symm.trans H; rw [hy140]; with_reducible exact H2_) | (have H2_ := (Option.bind_some _ _).symm.trans H; with_reducible exact H2_) | with_reducible exact H | (rw [hy140]; exact H) | exact H
       have Ny140 := Aside0.mk hy140
       clear hy140
       have H' := Aside0.mk H
       clear H
       have p137 : 0 ≤ (x20_1 : Int) := of_decide_eq_true (by first | (with_reducible assumption) | assumption)
       have q137 : x20_1 < (t129.length : Int) := of_decide_eq_true (by first | (with_reducible assumption) | assumption)
       obtain ⟨ad137, e137, hx137_0⟩ := Kd.at_string (Kd.R_reads' HO_18.out).2.2 x20_1 p137 q137
       cases e137
       replace p137 := eq_true p137
       replace q137 := eq_true q137
       go_wp2_with (first | (go_at_call 53; (with_reducible refine (strconv_Atoi.calls (rdOf ByteArray.empty t129 x20_1) t138 t139 _ A10.out).mono ?_); rintro e w12 ⟨rfl, hb⟩; have n0_ := Aside0.mk (Kd.R_below (by (with_reducible repeat (first | apply Kd.R_alloc | apply Kd.R_drewN | apply Kd.R_drew)); exact HO_6.out) hb); have n1_ := Aside0.mk (Kd.R_below (by (with_reducible repeat (first | apply Kd.R_alloc | apply Kd.R_drewN | apply Kd.R_drew)); exact HO_18.out) hb); have n2_ := Aside0.mk (below_step (by repeat (first | (with_reducible first | exact HB.out | apply below_alloc | apply pw_below_drewN | apply below_drew1) | exact HB.out)) hb); clear HO_6; clear HO_18; clear HB; have HO_6 := n0_; have HO_18 := n1_; have HB := n2_; clear n0_ n1_ n2_; (try clear hb); (try clear hb2); (try clear hk); (try clear hi); (try simp only [errW_none, errW_some])) | ((with_reducible refine gate_builtin (b := .append) (xs := #[.tmp 29, .tmp 31]) rfl ?_); at_builtin; refine Kd.R_append (Kd.int .i64) (w0 := w) w.heap.size rfl (.tmp 29) (.tmp 31) 33 3 (.int .i64 0) 8 rfl Tryd.underlying33 info3 rfl (by decide) (by omega) u6 x6_1 t138 [.int .i64 t138] (fun _ => True) (fun _ => False) rfl rfl ?aP (fun _ hk => hk.elim) ?aF ?aO ?aB ?aS ?aL ?_; (case aP => exact rfl); (case aB => exact (by repeat (first | (with_reducible first | exact HB.out | apply below_alloc | apply pw_below_drewN | apply below_drew1) | exact HB.out))); (case aF => exact (fun _ _ => trivial)); (case aO => exact (by (with_reducible repeat (first | apply Kd.R_alloc | apply Kd.R_drewN | apply Kd.R_drew)); exact HO_6.out)); (case aS => exact (below_size (by repeat (first | (with_reducible first | exact HB.out | apply below_alloc | apply pw_below_drewN | apply below_drew1) | exact HB.out)))); (case aL => have := LMc11.out; omega); intro v141 w13 ho hb hg hat; rw [← Ny140.out] at ho; have n0_ := Aside0.mk (Kd.R_over' (by (with_reducible repeat (first | apply Kd.R_alloc | apply Kd.R_drewN | apply Kd.R_drew)); exact HO_18.out) (Kd.R_typed (by (with_reducible repeat (first | apply Kd.R_alloc | apply Kd.R_drewN | apply Kd.R_drew)); exact HO_6.out)) (by decide) hg); have n1_ := Aside0.mk (hb); have n2_ := Aside0.mk (ho); clear HO_18; clear HB; clear HO_6; have HO_18 := n0_; have HB := n1_; have HO142 := n2_; clear n0_ n1_ n2_; clear ho hb hg hat))
       repeat (go_quiet (first | (go_at_call 53; (with_reducible refine (strconv_Atoi.calls (rdOf ByteArray.empty t129 x20_1) t138 t139 _ A10.out).mono ?_); rintro e w12 ⟨rfl, hb⟩; have n0_ := Aside0.mk (Kd.R_below (by (with_reducible repeat (first | apply Kd.R_alloc | apply Kd.R_drewN | apply Kd.R_drew)); exact HO_6.out) hb); have n1_ := Aside0.mk (Kd.R_below (by (with_reducible repeat (first | apply Kd.R_alloc | apply Kd.R_drewN | apply Kd.R_drew)); exact HO_18.out) hb); have n2_ := Aside0.mk (below_step (by repeat (first | (with_reducible first | exact HB.out | apply below_alloc | apply pw_below_drewN | apply below_drew1) | exact HB.out)) hb); clear HO_6; clear HO_18; clear HB; have HO_6 := n0_; have HO_18 := n1_; have HB := n2_; clear n0_ n1_ n2_; (try clear hb); (try clear hb2); (try clear hk); (try clear hi); (try simp only [errW_none, errW_some])) | ((with_reducible refine gate_builtin (b := .append) (xs := #[.tmp 29, .tmp 31]) rfl ?_); at_builtin; refine Kd.R_append (Kd.int .i64) (w0 := w) w.heap.size rfl (.tmp 29) (.tmp 31) 33 3 (.int .i64 0) 8 rfl Tryd.underlying33 info3 rfl (by decide) (by omega) u6 x6_1 t138 [.int .i64 t138] (fun _ => True) (fun _ => False) rfl rfl ?aP (fun _ hk => hk.elim) ?aF ?aO ?aB ?aS ?aL ?_; (case aP => exact rfl); (case aB => exact (by repeat (first | (with_reducible first | exact HB.out | apply below_alloc | apply pw_below_drewN | apply below_drew1) | exact HB.out))); (case aF => exact (fun _ _ => trivial)); (case aO => exact (by (with_reducible repeat (first | apply Kd.R_alloc | apply Kd.R_drewN | apply Kd.R_drew)); exact HO_6.out)); (case aS => exact (below_size (by repeat (first | (with_reducible first | exact HB.out | apply below_alloc | apply pw_below_drewN | apply below_drew1) | exact HB.out)))); (case aL => have := LMc11.out; omega); intro v141 w13 ho hb hg hat; rw [← Ny140.out] at ho; have n0_ := Aside0.mk (Kd.R_over' (by (with_reducible repeat (first | apply Kd.R_alloc | apply Kd.R_drewN | apply Kd.R_drew)); exact HO_18.out) (Kd.R_typed (by (with_reducible repeat (first | apply Kd.R_alloc | apply Kd.R_drewN | apply Kd.R_drew)); exact HO_6.out)) (by decide) hg); have n1_ := Aside0.mk (hb); have n2_ := Aside0.mk (ho); clear HO_18; clear HB; clear HO_6; have HO_18 := n0_; have HB := n1_; have HO142 := n2_; clear n0_ n1_ n2_; clear ho hb hg hat)); try go_wp2_with (first | (go_at_call 53; (with_reducible refine (strconv_Atoi.calls (rdOf ByteArray.empty t129 x20_1) t138 t139 _ A10.out).mono ?_); rintro e w12 ⟨rfl, hb⟩; have n0_ := Aside0.mk (Kd.R_below (by (with_reducible repeat (first | apply Kd.R_alloc | apply Kd.R_drewN | apply Kd.R_drew)); exact HO_6.out) hb); have n1_ := Aside0.mk (Kd.R_below (by (with_reducible repeat (first | apply Kd.R_alloc | apply Kd.R_drewN | apply Kd.R_drew)); exact HO_18.out) hb); have n2_ := Aside0.mk (below_step (by repeat (first | (with_reducible first | exact HB.out | apply below_alloc | apply pw_below_drewN | apply below_drew1) | exact HB.out)) hb); clear HO_6; clear HO_18; clear HB; have HO_6 := n0_; have HO_18 := n1_; have HB := n2_; clear n0_ n1_ n2_; (try clear hb); (try clear hb2); (try clear hk); (try clear hi); (try simp only [errW_none, errW_some])) | ((with_reducible refine gate_builtin (b := .append) (xs := #[.tmp 29, .tmp 31]) rfl ?_); at_builtin; refine Kd.R_append (Kd.int .i64) (w0 := w) w.heap.size rfl (.tmp 29) (.tmp 31) 33 3 (.int .i64 0) 8 rfl Tryd.underlying33 info3 rfl (by decide) (by omega) u6 x6_1 t138 [.int .i64 t138] (fun _ => True) (fun _ => False) rfl rfl ?aP (fun _ hk => hk.elim) ?aF ?aO ?aB ?aS ?aL ?_; (case aP => exact rfl); (case aB => exact (by repeat (first | (with_reducible first | exact HB.out | apply below_alloc | apply pw_below_drewN | apply below_drew1) | exact HB.out))); (case aF => exact (fun _ _ => trivial)); (case aO => exact (by (with_reducible repeat (first | apply Kd.R_alloc | apply Kd.R_drewN | apply Kd.R_drew)); exact HO_6.out)); (case aS => exact (below_size (by repeat (first | (with_reducible first | exact HB.out | apply below_alloc | apply pw_below_drewN | apply below_drew1) | exact HB.out)))); (case aL => have := LMc11.out; omega); intro v141 w13 ho hb hg hat; rw [← Ny140.out] at ho; have n0_ := Aside0.mk (Kd.R_over' (by (with_reducible repeat (first | apply Kd.R_alloc | apply Kd.R_drewN | apply Kd.R_drew)); exact HO_18.out) (Kd.R_typed (by (with_reducible repeat (first | apply Kd.R_alloc | apply Kd.R_drewN | apply Kd.R_drew)); exact HO_6.out)) (by decide) hg); have n1_ := Aside0.mk (hb); have n2_ := Aside0.mk (ho); clear HO_18; clear HB; clear HO_6; have HO_18 := n0_; have HB := n1_; have HO142 := n2_; clear n0_ n1_ n2_; clear ho hb hg hat)))
       go_roundg k1
       case measure => have := HK1.out; omega
       case rel => exact ⟨(y140), (wrap64 (x20_1 + 1)), (by first | rfl | (simp; done) | (simp [*]; done)), H', ⟨by have := HK1.out; omega⟩, ⟨by (with_reducible repeat (first | apply Kd.R_alloc | apply Kd.R_drewN | apply Kd.R_drew)); exact HO142.out⟩, ⟨by (with_reducible repeat (first | apply Kd.R_alloc | apply Kd.R_drewN | apply Kd.R_drew)); exact HO_18.out⟩, ⟨by repeat (first | (with_reducible first | exact HB.out | apply below_alloc | apply pw_below_drewN | apply below_drew1) | exact HB.out)⟩⟩
      ·rw [if_neg c11] at H
       exact absurd H (by simp)
     ·rw [if_neg c9] at H
      exact absurd H (by simp)
    ·rw [if_neg c8] at H
     exact absurd H (by simp)
   ·rw [if_neg c7] at H
    have c7b0 : decide (x20_1 < (t129.length : Int)) = false := decide_eq_false c7
    clear c7
    by_cases c14 : t130 = 43
    ·rw [if_pos c14] at H
     have c14b0 : (t130 == 43) = true := beq_iff_eq.mpr c14
     have c14b1 : (t130 != 43) = false := bne_eq_false_iff_eq.mpr c14
     clear c14
     by_cases c15 : 0 < (x6_1.length : Int)
     ·rw [if_pos c15] at H
      have c15b0 : decide (0 < (x6_1.length : Int)) = true := decide_eq_true c15
      have c15b1 : decide (0 < x6_1.length) = true := decide_eq_true (by omega)
      clear c15
      by_cases c16 : 1 < (x6_1.length : Int)
      ·rw [if_pos c16] at H
       have c16b0 : decide (1 < (x6_1.length : Int)) = true := decide_eq_true c16
       have c16b1 : decide (1 < x6_1.length) = true := decide_eq_true (by omega)
       clear c16
       by_cases c17 : 2 < (x6_1.length : Int)
       ·rw [if_pos c17] at H
        have c17b0 : decide (2 < (x6_1.length : Int)) = true := decide_eq_true c17
        have c17b1 : decide (2 < x6_1.length) = true := decide_eq_true (by omega)
        clear c17
        obtain rfl := Option.some.inj H
        obtain ⟨Ao18, co18, eo18⟩ := Kd.R_slice HO_6.out
        subst eo18
        have p143 : 0 ≤ (0 : Int) := (by omega)
        have q143 : 0 < (x6_1.length : Int) := of_decide_eq_true (by first | (with_reducible assumption) | assumption)
        obtain ⟨ad143, e143, hx143_0⟩ := Kd.at_int (Kd.R_reads' HO_6.out).2.2 0 p143 q143
        cases e143
        have qi143 : (0 < x6_1.length) = True := eq_true (by omega)
        (try rw [show ((0 : Int)).toNat = 0 from rfl] at hx143_0)
        (try rw [Addr.add_zero'] at hx143_0)
        replace p143 := eq_true p143
        replace q143 := eq_true q143
        have p144 : 0 ≤ (1 : Int) := (by omega)
        have q144 : 1 < (x6_1.length : Int) := of_decide_eq_true (by first | (with_reducible assumption) | assumption)
        obtain ⟨ad144, e144, hx144_0⟩ := Kd.at_int (Kd.R_reads' HO_6.out).2.2 1 p144 q144
        obtain rfl : ad143 = ad144 := (by injection e144)
        (try simp only [show (1 : Int).toNat = 1 from rfl, Nat.reduceMul, Nat.reduceEqDiff, Go.Addr.add, ↓reduceIte] at hx144_0)
        have qi144 : (1 < x6_1.length) = True := eq_true (by omega)
        (try rw [show ((1 : Int)).toNat = 1 from rfl] at hx144_0)
        replace p144 := eq_true p144
        replace q144 := eq_true q144
        have p145 : 0 ≤ (2 : Int) := (by omega)
        have q145 : 2 < (x6_1.length : Int) := of_decide_eq_true (by first | (with_reducible assumption) | assumption)
        obtain ⟨ad145, e145, hx145_0⟩ := Kd.at_int (Kd.R_reads' HO_6.out).2.2 2 p145 q145
        obtain rfl : ad143 = ad145 := (by injection e145)
        (try simp only [show (2 : Int).toNat = 2 from rfl, Nat.reduceMul, Nat.reduceEqDiff, Go.Addr.add, ↓reduceIte] at hx145_0)
        have qi145 : (2 < x6_1.length) = True := eq_true (by omega)
        (try rw [show ((2 : Int)).toNat = 2 from rfl] at hx145_0)
        replace p145 := eq_true p145
        replace q145 := eq_true q145
        go_wp2
        repeat (go_quiet (fail); try go_wp2)
        go_ret
        exact ⟨by first | rfl | (simp [errW_none, errW_some] <;> rfl) | (simp [*, errW_none, errW_some] <;> rfl), by repeat (first | (with_reducible first | exact HB.out | apply below_alloc | apply pw_below_drewN | apply below_drew1) | exact HB.out)⟩
       ·rw [if_neg c17] at H
        exact absurd H (by simp)
      ·rw [if_neg c16] at H
       exact absurd H (by simp)
     ·rw [if_neg c15] at H
      exact absurd H (by simp)
    ·rw [if_neg c14] at H
     have c14b0 : (t130 == 43) = false := beq_eq_false_iff_ne.mpr c14
     have c14b1 : (t130 != 43) = true := bne_iff_ne.mpr c14
     by_cases c19 : 0 < (x6_1.length : Int)
     ·rw [if_pos c19] at H
      have c19b0 : decide (0 < (x6_1.length : Int)) = true := decide_eq_true c19
      have c19b1 : decide (0 < x6_1.length) = true := decide_eq_true (by omega)
      clear c19
      by_cases c20 : 1 < (x6_1.length : Int)
      ·rw [if_pos c20] at H
       have c20b0 : decide (1 < (x6_1.length : Int)) = true := decide_eq_true c20
       have c20b1 : decide (1 < x6_1.length) = true := decide_eq_true (by omega)
       clear c20
       by_cases c21 : 2 < (x6_1.length : Int)
       ·rw [if_pos c21] at H
        have c21b0 : decide (2 < (x6_1.length : Int)) = true := decide_eq_true c21
        have c21b1 : decide (2 < x6_1.length) = true := decide_eq_true (by omega)
        clear c21
        obtain rfl := Option.some.inj H
        obtain ⟨Ao22, co22, eo22⟩ := Kd.R_slice HO_6.out
        subst eo22
        have p146 : 0 ≤ (0 : Int) := (by omega)
        have q146 : 0 < (x6_1.length : Int) := of_decide_eq_true (by first | (with_reducible assumption) | assumption)
        obtain ⟨ad146, e146, hx146_0⟩ := Kd.at_int (Kd.R_reads' HO_6.out).2.2 0 p146 q146
        cases e146
        have qi146 : (0 < x6_1.length) = True := eq_true (by omega)
        (try rw [show ((0 : Int)).toNat = 0 from rfl] at hx146_0)
        (try rw [Addr.add_zero'] at hx146_0)
        replace p146 := eq_true p146
        replace q146 := eq_true q146
        have p147 : 0 ≤ (1 : Int) := (by omega)
        have q147 : 1 < (x6_1.length : Int) := of_decide_eq_true (by first | (with_reducible assumption) | assumption)
        obtain ⟨ad147, e147, hx147_0⟩ := Kd.at_int (Kd.R_reads' HO_6.out).2.2 1 p147 q147
        obtain rfl : ad146 = ad147 := (by injection e147)
        (try simp only [show (1 : Int).toNat = 1 from rfl, Nat.reduceMul, Nat.reduceEqDiff, Go.Addr.add, ↓reduceIte] at hx147_0)
        have qi147 : (1 < x6_1.length) = True := eq_true (by omega)
        (try rw [show ((1 : Int)).toNat = 1 from rfl] at hx147_0)
        replace p147 := eq_true p147
        replace q147 := eq_true q147
        have p148 : 0 ≤ (2 : Int) := (by omega)
        have q148 : 2 < (x6_1.length : Int) := of_decide_eq_true (by first | (with_reducible assumption) | assumption)
        obtain ⟨ad148, e148, hx148_0⟩ := Kd.at_int (Kd.R_reads' HO_6.out).2.2 2 p148 q148
        obtain rfl : ad146 = ad148 := (by injection e148)
        (try simp only [show (2 : Int).toNat = 2 from rfl, Nat.reduceMul, Nat.reduceEqDiff, Go.Addr.add, ↓reduceIte] at hx148_0)
        have qi148 : (2 < x6_1.length) = True := eq_true (by omega)
        (try rw [show ((2 : Int)).toNat = 2 from rfl] at hx148_0)
        replace p148 := eq_true p148
        replace q148 := eq_true q148
        go_wp2
        repeat (go_quiet (fail); try go_wp2)
        go_ret
        exact ⟨by first | rfl | (simp [errW_none, errW_some] <;> rfl) | (simp [*, errW_none, errW_some] <;> rfl), by repeat (first | (with_reducible first | exact HB.out | apply below_alloc | apply pw_below_drewN | apply below_drew1) | exact HB.out)⟩
       ·rw [if_neg c21] at H
        exact absurd H (by simp)
      ·rw [if_neg c20] at H
       exact absurd H (by simp)
     ·rw [if_neg c19] at H
      exact absurd H (by simp)

/-! ### impl_IsTrueEquation: function 23 -/
def impl_IsTrueEquation.f (k : Nat) (a0 : ByteArray) : Option (Bool × Bool) := (impl_IsEquation.f a0).bind fun t149 => (if t149 = true then ((impl_isTrue.f k a0).bind fun t150 => (some (t150, true))) else (some (false, false)))
theorem impl_IsTrueEquation.mono : ∀ a0 k, LeO (impl_IsTrueEquation.f k a0) (impl_IsTrueEquation.f (k + 1) a0) := by
 intro a0 k
 unfold impl_IsTrueEquation.f
 repeat' first
   | (with_reducible exact impl_isTrue.mono _ _)
   | (with_reducible exact LeO.refl _)
   | (with_reducible exact LeO.none _)
   | (with_reducible refine LeO.ite ?_ ?_)
   | (with_reducible refine LeO.bind ?_ (fun _ => ?_))
   | exact impl_isTrue.mono _ _
   | exact LeO.none _
   | refine LeO.ite ?_ ?_
   | refine LeO.bind ?_ (fun _ => ?_)
set_option maxHeartbeats 8000000 in
set_option maxRecDepth 100000 in
theorem impl_IsTrueEquation.calls (k : Nat) (a0 : ByteArray) (r1 : Bool) (r2 : Bool) (w : World) (h : impl_IsTrueEquation.f k a0 = some (r1, r2)) :
  Calls Tryd.prog 23 #[.string a0] w fun e w' => e = .returned (.tuple #[.bool r1, .bool r2]) ∧ Below w.heap.size w w' := by
 have HB := Aside0.mk (Below.refl w.heap.size w)
 have H : ((impl_IsEquation.f a0).bind fun t149 => (if t149 = true then ((impl_isTrue.f k a0).bind fun t150 => (some (t150, true))) else (some (false, false)))) = some (r1, r2) := h
 clear h
 replace H := Option.bind_eq_some_iff.mp H
 obtain ⟨t149, A20, H⟩ := H
 replace H : (if t149 = true then ((impl_isTrue.f k a0).bind fun t150 => (some (t150, true))) else (some (false, false))) = some (r1, r2) := H
 have A2 := Aside0.mk A20
 clear A20
 by_cases c3 : t149 = true
 ·subst c3
  have H1 : ((impl_isTrue.f k a0).bind fun t150 => (some (t150, true))) = some (r1, r2) := by rw [if_pos rfl] at H; exact H
  clear H
  have H := H1
  clear H1
  replace H := Option.bind_eq_some_iff.mp H
  obtain ⟨t150, A40, H⟩ := H
  replace H : (some (t150, true)) = some (r1, r2) := H
  have A4 := Aside0.mk A40
  clear A40
  simp only [Option.some.injEq, Prod.mk.injEq] at H
  obtain ⟨rfl, rfl⟩ := H
  go_enter Tryd.func23, Tryd.ntmps23
  go_wp2_with (first | ((with_reducible refine gate_callee (f := 15) rfl ?_); refine goesL_ (some 5) rfl rfl Tryd.func15 (by kernel_rfl) rfl #[.string a0] rfl (by (try simp only [List.map_toArray, List.map_cons, List.map_nil]); first | done | rfl | (simp only [List.length_drop, List.length_take]; rfl)) ?_; (with_reducible refine (impl_IsEquation.calls a0 true _ A2.out).mono ?_); rintro e w5 ⟨rfl, hb⟩; refine ⟨_, rfl, ?_⟩; have n0_ := Aside0.mk (below_step (by repeat (first | (with_reducible first | exact HB.out | apply below_alloc | apply pw_below_drewN | apply below_drew1) | exact HB.out)) hb); clear HB; have HB := n0_; clear n0_; (try clear hb); (try clear hb2); (try clear hk); (try clear hi)) | ((with_reducible refine gate_callee (f := 40) rfl ?_); refine goesL_ (some 8) rfl rfl Tryd.func40 (by kernel_rfl) rfl #[.string a0] rfl (by (try simp only [List.map_toArray, List.map_cons, List.map_nil]); first | done | rfl | (simp only [List.length_drop, List.length_take]; rfl)) ?_; (with_reducible refine (impl_isTrue.calls k a0 t150 _ A4.out).mono ?_); rintro e w6 ⟨rfl, hb⟩; refine ⟨_, rfl, ?_⟩; have n0_ := Aside0.mk (below_step (by repeat (first | (with_reducible first | exact HB.out | apply below_alloc | apply pw_below_drewN | apply below_drew1) | exact HB.out)) hb); clear HB; have HB := n0_; clear n0_; (try clear hb); (try clear hb2); (try clear hk); (try clear hi)))
  go_ret2
  exact ⟨by first | rfl | (simp [errW_none, errW_some] <;> rfl) | (simp [*, errW_none, errW_some] <;> rfl), by repeat (first | (with_reducible first | exact HB.out | apply below_alloc | apply pw_below_drewN | apply below_drew1) | exact HB.out)⟩
 ·replace c3 := Bool.eq_false_iff.mpr c3
  subst c3
  have H1 : (some (false, false)) = some (r1, r2) := by rw [if_neg (show ¬ (false = true) by decide)] at H; exact H
  clear H
  have H := H1
  clear H1
  simp only [Option.some.injEq, Prod.mk.injEq] at H
  obtain ⟨rfl, rfl⟩ := H
  go_enter Tryd.func23, Tryd.ntmps23
  go_wp2_with (first | ((with_reducible refine gate_callee (f := 15) rfl ?_); refine goesL_ (some 5) rfl rfl Tryd.func15 (by kernel_rfl) rfl #[.string a0] rfl (by (try simp only [List.map_toArray, List.map_cons, List.map_nil]); first | done | rfl | (simp only [List.length_drop, List.length_take]; rfl)) ?_; (with_reducible refine (impl_IsEquation.calls a0 false _ A2.out).mono ?_); rintro e w7 ⟨rfl, hb⟩; refine ⟨_, rfl, ?_⟩; have n0_ := Aside0.mk (below_step (by repeat (first | (with_reducible first | exact HB.out | apply below_alloc | apply pw_below_drewN | apply below_drew1) | exact HB.out)) hb); clear HB; have HB := n0_; clear n0_; (try clear hb); (try clear hb2); (try clear hk); (try clear hi)))
  go_ret2
  exact ⟨by first | rfl | (simp [errW_none, errW_some] <;> rfl) | (simp [*, errW_none, errW_some] <;> rfl), by repeat (first | (with_reducible first | exact HB.out | apply below_alloc | apply pw_below_drewN | apply below_drew1) | exact HB.out)⟩

/-! ### laws_FnExactIsTrueEquation: function 9 -/
def laws_FnExactIsTrueEquation.f (k : Nat) (a0 : ByteArray) : Option (Bool) := if (a0.size : Int) > 1000000 then (some true) else ((spec_IsTrueEquation.f k a0).bind fun bt151 => ((impl_IsTrueEquation.f k a0).bind fun bt153 => (if (bt153.1 != bt151.1) = true then (some false) else (if (bt153.2 != bt151.2) = true then (some false) else (some true)))))
theorem laws_FnExactIsTrueEquation.mono : ∀ a0 k, LeO (laws_FnExactIsTrueEquation.f k a0) (laws_FnExactIsTrueEquation.f (k + 1) a0) := by
 intro a0 k
 unfold laws_FnExactIsTrueEquation.f
 repeat' first
   | (with_reducible exact impl_IsTrueEquation.mono _ _)
   | (with_reducible exact spec_IsTrueEquation.mono _ _)
   | (with_reducible exact LeO.refl _)
   | (with_reducible exact LeO.none _)
   | (with_reducible refine LeO.ite ?_ ?_)
   | (with_reducible refine LeO.bind ?_ (fun _ => ?_))
   | exact impl_IsTrueEquation.mono _ _
   | exact spec_IsTrueEquation.mono _ _
   | exact LeO.none _
   | refine LeO.ite ?_ ?_
   | refine LeO.bind ?_ (fun _ => ?_)
set_option maxHeartbeats 8000000 in
set_option maxRecDepth 100000 in
theorem laws_FnExactIsTrueEquation.calls (k : Nat) (a0 : ByteArray) (r : Bool) (w : World) (hr_ : r = true) (h : laws_FnExactIsTrueEquation.f k a0 = some r) :
  Calls Tryd.prog 9 #[.string a0] w fun e w' => e = .returned (.bool r) ∧ Below w.heap.size w w' := by
 have HR_ := Aside0.mk hr_
 clear hr_
 have HB := Aside0.mk (Below.refl w.heap.size w)
 have H : (if (a0.size : Int) > 1000000 then (some true) else ((spec_IsTrueEquation.f k a0).bind fun bt151 => ((impl_IsTrueEquation.f k a0).bind fun bt153 => (if (bt153.1 != bt151.1) = true then (some false) else (if (bt153.2 != bt151.2) = true then (some false) else (some true)))))) = some r := h
 clear h
 by_cases c2 : (a0.size : Int) > 1000000
 ·rw [if_pos c2] at H
  have c2b0 : decide (1000000 < (a0.size : Int)) = true := decide_eq_true c2
  have c2b1 : decide (1000000 < a0.size) = true := decide_eq_true (by omega)
  clear c2
  obtain rfl := Option.some.inj H
  go_enter Tryd.func9, Tryd.ntmps9
  go_wp2
  go_ret
  exact ⟨by first | rfl | (simp [errW_none, errW_some] <;> rfl) | (simp [*, errW_none, errW_some] <;> rfl), by repeat (first | (with_reducible first | exact HB.out | apply below_alloc | apply pw_below_drewN | apply below_drew1) | exact HB.out)⟩
 ·rw [if_neg c2] at H
  have c2b0 : decide (1000000 < (a0.size : Int)) = false := decide_eq_false c2
  have c2b1 : decide (1000000 < a0.size) = false := decide_eq_false (by omega)
  clear c2
  replace H := Option.bind_eq_some_iff.mp H
  obtain ⟨⟨t151, t152⟩, A30, H⟩ := H
  replace H : ((impl_IsTrueEquation.f k a0).bind fun bt153 => (if (bt153.1 != t151) = true then (some false) else (if (bt153.2 != t152) = true then (some false) else (some true)))) = some r := H
  have A3 := Aside0.mk A30
  clear A30
  replace H := Option.bind_eq_some_iff.mp H
  obtain ⟨⟨t153, t154⟩, A40, H⟩ := H
  replace H : (if (t153 != t151) = true then (some false) else (if (t154 != t152) = true then (some false) else (some true))) = some r := H
  have A4 := Aside0.mk A40
  clear A40
  by_cases c5 : (t153 != t151) = true
  ·rw [if_pos c5] at H
   have c5b0 : (t153 != t151) = true := c5
   (try (have c5b1 : decide (t153 = t151) = false := by simpa using c5))
   (try (have c5b2 : (t153 == t151) = false := by simpa using c5))
   (try (have c5b3 : ¬ (t153 = t151) := by simpa using c5))
   clear c5
   exact absurd ((Option.some.inj H).trans HR_.out) Bool.false_ne_true
  ·rw [if_neg c5] at H
   have c5b0 : (t153 != t151) = false := by simpa using c5
   (try (have c5b1 : decide (t153 = t151) = true := by simpa using c5))
   (try (have c5b2 : (t153 == t151) = true := by simpa using c5))
   clear c5
   by_cases c6 : (t154 != t152) = true
   ·rw [if_pos c6] at H
    have c6b0 : (t154 != t152) = true := c6
    (try (have c6b1 : decide (t154 = t152) = false := by simpa using c6))
    (try (have c6b2 : (t154 == t152) = false := by simpa using c6))
    (try (have c6b3 : ¬ (t154 = t152) := by simpa using c6))
    clear c6
    exact absurd ((Option.some.inj H).trans HR_.out) Bool.false_ne_true
   ·rw [if_neg c6] at H
    have c6b0 : (t154 != t152) = false := by simpa using c6
    (try (have c6b1 : decide (t154 = t152) = true := by simpa using c6))
    (try (have c6b2 : (t154 == t152) = true := by simpa using c6))
    clear c6
    obtain rfl := Option.some.inj H
    go_enter Tryd.func9, Tryd.ntmps9
    go_wp2_with (first | ((with_reducible refine gate_callee (f := 22) rfl ?_); refine goesL_ (some 12) rfl rfl Tryd.func22 (by kernel_rfl) rfl #[.string a0] rfl (by (try simp only [List.map_toArray, List.map_cons, List.map_nil]); first | done | rfl | (simp only [List.length_drop, List.length_take]; rfl)) ?_; (with_reducible refine (spec_IsTrueEquation.calls k a0 t151 t152 _ A3.out).mono ?_); rintro e w7 ⟨rfl, hb⟩; refine ⟨_, rfl, ?_⟩; have n0_ := Aside0.mk (below_step (by repeat (first | (with_reducible first | exact HB.out | apply below_alloc | apply pw_below_drewN | apply below_drew1) | exact HB.out)) hb); clear HB; have HB := n0_; clear n0_; (try clear hb); (try clear hb2); (try clear hk); (try clear hi)) | ((with_reducible refine gate_callee (f := 23) rfl ?_); refine goesL_ (some 17) rfl rfl Tryd.func23 (by kernel_rfl) rfl #[.string a0] rfl (by (try simp only [List.map_toArray, List.map_cons, List.map_nil]); first | done | rfl | (simp only [List.length_drop, List.length_take]; rfl)) ?_; (with_reducible refine (impl_IsTrueEquation.calls k a0 t153 t154 _ A4.out).mono ?_); rintro e w8 ⟨rfl, hb⟩; refine ⟨_, rfl, ?_⟩; have n0_ := Aside0.mk (below_step (by repeat (first | (with_reducible first | exact HB.out | apply below_alloc | apply pw_below_drewN | apply below_drew1) | exact HB.out)) hb); clear HB; have HB := n0_; clear n0_; (try clear hb); (try clear hb2); (try clear hk); (try clear hi)))
    go_ret
    exact ⟨by first | rfl | (simp [errW_none, errW_some] <;> rfl) | (simp [*, errW_none, errW_some] <;> rfl), by repeat (first | (with_reducible first | exact HB.out | apply below_alloc | apply pw_below_drewN | apply below_drew1) | exact HB.out)⟩

/-- THE ONE PURE STATEMENT of laws_FnExactIsTrueEquation. -/
def laws_FnExactIsTrueEquation.Pure : Prop := ∀ (a0 : ByteArray), a0.size ≤ 140737488351232 → ∃ k, laws_FnExactIsTrueEquation.f k a0 = some true

end Go.Proofs.YtfnnilmkmlmleaaDoor.Q
