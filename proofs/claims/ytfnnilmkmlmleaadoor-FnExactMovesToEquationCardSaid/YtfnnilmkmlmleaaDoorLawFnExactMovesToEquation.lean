/- Proved here: the law FnExactMovesToEquation answers true for every input: out of its pure statement (YtfnnilmkmlmleaaDoorPureFnExactMovesToEquation) and the walk of the program (YtfnnilmkmlmleaaDoorQFnExactMovesToEquationx*). No condition beyond the row's own. -/
import Derived.Test.YtfnnilmkmlmleaaDoorRows
import Derived.Test.YtfnnilmkmlmleaaDoorQFnExactMovesToEquationx4
import Derived.Test.YtfnnilmkmlmleaaDoorPureFnExactMovesToEquation
import Derived.Test.YtfnnilmkmlmleaaDoorTie
import Derived.Test.YtfnnilmkmlmleaaDoorCards
import Derived.WalkKit
import Derived.ProofKit
import Derived.OpenShut
import Derived.ShutString
import Derived.ChangeOld
import Derived.Below
import Derived.SizedLaws
import Derived.Lib.SmallJoins
import Derived.OpenVars
import Derived.LaidMore
import Derived.LaidByTextLater
import Derived.SevenTiedAt
import Derived.Stop.Joined
namespace Go.Proofs.YtfnnilmkmlmleaaDoor.fnExactMovesToEquation
open Go.ChangeShapes Go.WideShapes Go.ChangeAt Go.RowKit Go.Lib Go.Joins Go.Proofs.YtfnnilmkmlmleaaDoorW.PrintWords Go.Proofs.YtfnnilmkmlmleaaDoor.Q
open Go.ChangeMaps (open_string shut_string)
set_option linter.unusedVariables false
theorem own : ownKnob Tryd.prog.godebug = none := by kernel_rfl
theorem laidOut : laidOutB Tryd.prog = true := by kernel_rfl
def IsRow (k : IntKind) (w : World) (a : Option Addr) (len cap : Nat) (zs : List Int) : Prop :=
  (a = none ∧ len = 0 ∧ cap = 0 ∧ zs = []) ∨
  ∃ x, a = some x ∧ len ≤ cap ∧ cap ≤ maxLen ∧ zs.length = cap ∧ (∀ i, i < zs.length → w.cell? (x.add i) = some (.int k (zs.getD i 0))) ∧ ∀ n ∈ zs, (Lit.int k n).wf = true
/-- What the row lists. -/
def laidL : List (String × DataW Unit) := [("unicode/utf8.acceptRanges", Rows.laid_unicode_utf8_acceptRanges), ("loop.example/g01233/impl.laid", Rows.laid_loop_example_g01233_impl_laid), ("unicode/utf8.first", Rows.laid_unicode_utf8_first)]
theorem gTab_digL : ∃ g, Tryd.prog.globalNamed "loop.example/g01233/impl.laid" = some g ∧ ∃ t e, (Tryd.prog.globals[g]?).map (·.type) = some t ∧ Tryd.prog.underlying t = some (.array 10 e) ∧ Tryd.prog.underlying e = some (.int .u8) ∧ Tryd.prog.cellsOf e = 1 ∧ g = 0 := ⟨0, by kernel_rfl, 56, 5, by kernel_rfl, by kernel_rfl, by kernel_rfl, by kernel_rfl, rfl⟩
/-- A table's cells, out of what a row says of it. -/
def datumCells : DataW Unit → Array Value
  | .agg l => (l.map fun | .lit (.int k n) => Value.int k n | _ => Value.int .u8 0).toArray
  | _ => #[]
/-- The door's world, utf8's first table laid: a witness. -/
noncomputable def doorW (os : Os) : World :=
  { World.doorLaid Tryd.prog 400 os with heap := (World.doorLaid Tryd.prog 400 os).heap.modify 4 fun
      | .cells _ t frozen => .cells (datumCells Rows.laid_unicode_utf8_first) t frozen
      | o => o }
theorem door_met (os : Os) (args : Array Value) : laidMetH Tryd.prog laidL ((doorW os).forCall (fun _ _ => 0) ⟨#[], args, []⟩).memory :=
  laidMetH_of_parts3 (fuel := 8) (laidMet_of_run' 8 (by kernel_rfl) (by kernel_rfl)) (by kernel_rfl) (by kernel_rfl)
theorem of_laid {W : World} (h : laidMetH Tryd.prog laidL W) : LaidG W := by
  rw [MakeChecks.laidMetH_plain _ _ _ (by kernel_rfl)] at h
  obtain ⟨ps, ⟨g0, t0, cs0, f0, p0, q0, hg0, ht0, hv0, hd0, ⟨g1, t1, cs1, f1, p1, q1, hg1, ht1, hv1, hd1, ⟨g2, t2, cs2, f2, p2, q2, hg2, ht2, hv2, hd2, _⟩, _⟩, _⟩, _, _⟩ := h
  have K1 : LaidT 0 10 digL W := by
    obtain ⟨g, hg, t, e, ht, hu, he, hc, hgi⟩ := gTab_digL
    obtain rfl := Option.some.inj (hg.symm.trans hg1)
    obtain rfl := Option.some.inj (ht.symm.trans ht1)
    obtain ⟨xs, m1, rfl, hx1, hlen, hn3, hel⟩ := DataW.trod_array hu hd1
    have hxs : digL.map (fun n => (DataW.lit (.int .u8 n) : DataW Unit)) = xs.map (·.1) := by
      have h1 := (Prod.mk.inj hx1).1
      exact DataW.agg.inj h1
    have cell : ∀ i : Nat, i < 10 → W.cell? ⟨g, i, none⟩ = some (.int .u8 (digL.getD i 0)) := by
      intro i hi
      have h0 := hel i hi
      rw [hc, Nat.mul_one, List.getElem?_eq_getElem (by omega)] at h0
      obtain ⟨k, e1, e2, _⟩ := DataW.trod_int he h0
      have h3 := congrArg (fun l => l[i]?) hxs
      simp only [List.getElem?_map] at h3
      rw [List.getElem?_eq_getElem (show i < xs.length by omega), e2] at h3
      have h4 := congrArg (fun l => l[0]?) e1
      simp [List.getElem?_drop] at h4
      have h5 := World.var?_cell hg hv1 i
      rw [h5]
      cases hd : digL[i]? with
      | none => rw [hd] at h3; simp at h3
      | some y =>
        rw [hd] at h3
        have hk : y = k := by simpa using h3
        subst hk
        simp [List.getD_eq_getElem?_getD, hd, h4]
    subst hgi
    refine ⟨?_, cell⟩
    have h0 := cell 0 (by decide)
    apply Classical.byContradiction
    intro hlt
    unfold World.cell? at h0
    rw [Array.getElem?_eq_none (by simpa using hlt)] at h0
    simp at h0
  exact K1
set_option maxRecDepth 100000 in
theorem lifted (os : Os) (started : os.Started) (H : Type) (enc : TypeId × Value → H) :
    ReturnsInHanded {} Tryd.checked os 7 .any (fun w args => (Rows.fnExactMovesToEquationSpec.pre enc Tryd.prog Tryd.f7 [] false w args ∧ laidMetH Tryd.prog laidL w) ∧ sizedMet enc Tryd.prog Tryd.f7 (OpenSpec.ofChange Rows.fnExactMovesToEquationSpec) false w args)
      (Rows.fnExactMovesToEquationSpec.post enc Tryd.prog Tryd.f7 false true false false) := by
  refine returnsInHanded_of_change_and (C := Tryd.checked) (X := fun w _ => laidMetH Tryd.prog laidL w) (fun _ _ _ hh h => h.of_heap hh) own started (by kernel_rfl) Tryd.func7
    (ChangeSpec.witness_shaped (enc := enc) (C := Tryd.checked) (os := os) (X := fun w _ => laidMetH Tryd.prog laidL w) false (doorW os) #[.string ByteArray.empty, .string ByteArray.empty] 8 rfl (World.shaped_of_RefB (by kernel_rfl) (by kernel_rfl)) (by kernel_rfl) (by kernel_rfl) (by kernel_rfl) (door_met os _)) ?_
  intro W base args ds gs before hval0 hW hcnd hsz0 hL _
  have hsz : (DataW.weightsEach Tryd.prog (Tryd.f7.params.toList ++ Rows.fnExactMovesToEquationSpec.plain.varTypes Tryd.prog) (ds ++ gs)).all (· ≤ reachBytes) = true := hsz0
  have hval : ∀ (j : Nat) t v, Tryd.f7.params[j]? = some t → args[j]? = some v → Value.okWide Tryd.prog W .any base t v := hval0
  have hW' := hW
  obtain ⟨p, q, hA0, hV, rfl, hfz, hnd⟩ := hW
  have hA : DataW.TrodAll enc Tryd.prog W 0 (fun _ => true) true Tryd.f7.params.toList args.toList ds p := hA0
  rw [Tryd.params7] at hA hval hsz
  obtain ⟨v0, vs0, d0, ds0, p0, q0, hargs, rfl, rfl, h0, r0⟩ := trodAll_cons hA
  obtain ⟨v1, vs1, d1, ds1, p1, q1, rfl, rfl, rfl, h1, r1⟩ := trodAll_cons r0
  obtain ⟨rfl, rfl, rfl⟩ := trodAll_nil r1
  obtain rfl : args = #[v0, v1] := by cases args; simp_all
  have hV0 := hV
  obtain ⟨gv, tv, csv, fv, dv, pv, rfl, hgv, htv, hvv, hdv, rfl⟩ := trodVars_one hV
  have hG := of_laid hL
  obtain ⟨a0, rfl, rfl, rfl, y0⟩ := open_string Tryd.underlying9 (hval 0 9 v0 rfl rfl) h0
  have w0 : a0.size ≤ 140737488351232 := by
    have z := sized_string hsz (j := 0) (t := 9) rfl rfl
    rw [Array.length_toList] at z
    exact z
  obtain ⟨a1, rfl, rfl, rfl, y1⟩ := open_string Tryd.underlying9 (hval 1 9 v1 rfl rfl) h1
  have w1 : a1.size ≤ 140737488351232 := by
    have z := sized_string hsz (j := 1) (t := 9) rfl rfl
    rw [Array.length_toList] at z
    exact z
  clear hA0 hval0 hsz0 hsz
  have hP := Pure.FnExactMovesToEquation a0 a1 w0 w1
  obtain ⟨k, hk⟩ := hP
  refine (laws_FnExactMovesToEquation.calls k a0 a1 true W  hG rfl hk).mono fun e W' ⟨he, bel⟩ => ?_
  subst he
  exact ⟨_, rfl, _, _, _, [], _, _, hW', trodAll_mk1 (shut_bool Tryd.underlying4 _), (trodAll_cons_mk (shut_string Tryd.underlying9 y0) (trodAll_cons_mk (shut_string Tryd.underlying9 y1) trodAll_mk0)), bel.trodVars laidOut (by kernel_rfl) hV0, bel.frame _, fun h => by cases h⟩
theorem over : Rows.fnExactMovesToEquationRow.holds Tryd.pinned (OpenSpec.ofChange Rows.fnExactMovesToEquationSpec) :=
  OpenClaim.holds_of_wide 7 Tryd.f7 rfl rfl rfl rfl rfl rfl rfl ⟨rfl, rfl, rfl, rfl, rfl⟩ rfl rfl rfl rfl rfl (by kernel_rfl) Tryd.func7 (by kernel_rfl)
    (of_decide_eq_true (by kernel_rfl)) (by unfold Func.isWrapper; first | (rw [if_pos (by decide +kernel)]; kernel_rfl) | (rw [if_neg (by decide +kernel)]; exact ⟨rfl, rfl⟩))
    (fun os started H enc _ => lifted os started H enc)
theorem proved : Rows.FnExactMovesToEquationCardSaid :=
  Claim7.holds_tied_plain_at .later [] [.data, .widerDeep, .pinned] true (true, "c8ea9b3bb6afbbe09c6cd947dabae88d04c3b409b8ec186fb4008b2d0c85649e") true
    over (fun _ h => by cases h) (by kernel_rfl) (fun _ h => by cases h) fnExactMovesToEquation_row_tie rfl ⟨rfl, rfl⟩ (by kernel_rfl) rfl
    (fun f fn hf hfn => by
      obtain rfl : f = 7 := Option.some.inj ((show Tryd.prog.funcNamed "loop.example/g01233/laws.FnExactMovesToEquation" = some 7 by kernel_rfl).symm.trans hf) |>.symm
      obtain rfl : fn = Tryd.f7 := (Option.some.inj (Tryd.func7.symm.trans hfn)).symm
      exact ⟨by kernel_rfl, fun j t ht => by
        rw [Tryd.params7] at ht
        have hm : t ∈ [9, 9] := by simpa using Array.mem_of_getElem? ht
        have hall : ([9, 9].all fun u => !Tryd.prog.wantsStandIn u) = true := by kernel_rfl
        exact (show Tryd.prog.wantsStandIn t = false by simpa using List.all_eq_true.1 hall t hm)⟩)
    (by kernel_rfl)
#print axioms proved
end Go.Proofs.YtfnnilmkmlmleaaDoor.fnExactMovesToEquation
namespace Go.Proofs.YtfnnilmkmlmleaaDoor
/-- The law, under a short name, for the claim. -/
theorem fnExactMovesToEquation_holds : Rows.FnExactMovesToEquationCardSaid := fnExactMovesToEquation.proved
end Go.Proofs.YtfnnilmkmlmleaaDoor
