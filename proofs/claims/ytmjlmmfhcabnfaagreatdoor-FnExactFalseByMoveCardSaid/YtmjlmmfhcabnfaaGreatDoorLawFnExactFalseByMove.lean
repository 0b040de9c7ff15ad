/- Proved here: the law FnExactFalseByMove answers true for every input: out of its pure statement (YtmjlmmfhcabnfaaGreatDoorPureFnExactFalseByMove) and the walk of the program (YtmjlmmfhcabnfaaGreatDoorQFnExactFalseByMovex*). No condition beyond the row's own. -/
import Derived.Test.YtmjlmmfhcabnfaaGreatDoorRows
import Derived.Test.YtmjlmmfhcabnfaaGreatDoorQFnExactFalseByMovex9
import Derived.Test.YtmjlmmfhcabnfaaGreatDoorPureFnExactFalseByMove
import Derived.Test.YtmjlmmfhcabnfaaGreatDoorTie
import Derived.Test.YtmjlmmfhcabnfaaGreatDoorCards
import Derived.WalkKit
import Derived.ProofKit
import Derived.OpenShut
import Derived.ShutString
import Derived.ChangeOld
import Derived.Below
import Derived.SizedLaws
import Derived.Lib.SmallJoins
import Derived.OpenVars
import Derived.LaidMore
import Derived.LaidByTextLater
import Derived.SevenTiedAt
import Derived.Stop.Joined
namespace Go.Proofs.YtmjlmmfhcabnfaaGreatDoor.fnExactFalseByMove
open Go.ChangeShapes Go.WideShapes Go.ChangeAt Go.RowKit Go.Lib Go.Joins Go.Proofs.YtmjlmmfhcabnfaaGreatDoorW.PrintWords Go.Proofs.YtmjlmmfhcabnfaaGreatDoor.Q
open Go.ChangeMaps (open_string shut_string)
set_option linter.unusedVariables false
theorem own : ownKnob Tryz.prog.godebug = none := by kernel_rfl
theorem laidOut : laidOutB Tryz.prog = true := by kernel_rfl
def IsRow (k : IntKind) (w : World) (a : Option Addr) (len cap : Nat) (zs : List Int) : Prop :=
  (a = none ∧ len = 0 ∧ cap = 0 ∧ zs = []) ∨
  ∃ x, a = some x ∧ len ≤ cap ∧ cap ≤ maxLen ∧ zs.length = cap ∧ (∀ i, i < zs.length → w.cell? (x.add i) = some (.int k (zs.getD i 0))) ∧ ∀ n ∈ zs, (Lit.int k n).wf = true
/-- What the row lists. -/
def laidL : List (String × DataW Unit) := [("math/bits.deBruijn32tab", Rows.laid_math_bits_deBruijn32tab), ("math/bits.deBruijn64tab", Rows.laid_math_bits_deBruijn64tab), ("internal/strconv.uint64pow10", Rows.laid_internal_strconv_uint64pow10), ("unicode/utf8.acceptRanges", Rows.laid_unicode_utf8_acceptRanges), ("strconv.ErrRange", Rows.laid_strconv_ErrRange), ("strconv.ErrSyntax", Rows.laid_strconv_ErrSyntax), ("loop.example/g01233/impl.laid", Rows.laid_loop_example_g01233_impl_laid), ("unicode/utf8.first", Rows.laid_unicode_utf8_first)]
theorem gTab_deBr : ∃ g, Tryz.prog.globalNamed "math/bits.deBruijn64tab" = some g ∧ ∃ t e, (Tryz.prog.globals[g]?).map (·.type) = some t ∧ Tryz.prog.underlying t = some (.array 64 e) ∧ Tryz.prog.underlying e = some (.int .u8) ∧ Tryz.prog.cellsOf e = 1 ∧ g = 8 := ⟨8, by kernel_rfl, 149, 5, by kernel_rfl, by kernel_rfl, by kernel_rfl, by kernel_rfl, rfl⟩
theorem gTab_digL : ∃ g, Tryz.prog.globalNamed "loop.example/g01233/impl.laid" = some g ∧ ∃ t e, (Tryz.prog.globals[g]?).map (·.type) = some t ∧ Tryz.prog.underlying t = some (.array 10 e) ∧ Tryz.prog.underlying e = some (.int .u8) ∧ Tryz.prog.cellsOf e = 1 ∧ g = 0 := ⟨0, by kernel_rfl, 87, 5, by kernel_rfl, by kernel_rfl, by kernel_rfl, by kernel_rfl, rfl⟩
/-- A table's cells, out of what a row says of it. -/
def datumCells : DataW Unit → Array Value
  | .agg l => (l.map fun | .lit (.int k n) => Value.int k n | _ => Value.int .u8 0).toArray
  | _ => #[]
/-- The door's world, utf8's first table laid: a witness. -/
noncomputable def doorW (os : Os) : World :=
  { World.doorLaid Tryz.prog 400 os with heap := (World.doorLaid Tryz.prog 400 os).heap.modify 4 fun
      | .cells _ t frozen => .cells (datumCells Rows.laid_unicode_utf8_first) t frozen
      | o => o }
theorem door_met (os : Os) (args : Array Value) : laidMetH Tryz.prog laidL ((doorW os).forCall (fun _ _ => 0) ⟨#[], args, []⟩).memory :=
  laidMetH_of_parts3 (fuel := 8) (laidMet_of_run' 8 (by kernel_rfl) (by kernel_rfl)) (by kernel_rfl) (by kernel_rfl)
theorem of_laid {W : World} (h : laidMetH Tryz.prog laidL W) : LaidG W := by
  rw [MakeChecks.laidMetH_plain _ _ _ (by kernel_rfl)] at h
  obtain ⟨ps, ⟨g0, t0, cs0, f0, p0, q0, hg0, ht0, hv0, hd0, ⟨g1, t1, cs1, f1, p1, q1, hg1, ht1, hv1, hd1, ⟨g2, t2, cs2, f2, p2, q2, hg2, ht2, hv2, hd2, ⟨g3, t3, cs3, f3, p3, q3, hg3, ht3, hv3, hd3, ⟨g4, t4, cs4, f4, p4, q4, hg4, ht4, hv4, hd4, ⟨g5, t5, cs5, f5, p5, q5, hg5, ht5, hv5, hd5, ⟨g6, t6, cs6, f6, p6, q6, hg6, ht6, hv6, hd6, ⟨g7, t7, cs7, f7, p7, q7, hg7, ht7, hv7, hd7, _⟩, _⟩, _⟩, _⟩, _⟩, _⟩, _⟩, _⟩, _, _⟩ := h
  have K1 : LaidT 8 64 deBr W := by
    obtain ⟨g, hg, t, e, ht, hu, he, hc, hgi⟩ := gTab_deBr
    obtain rfl := Option.some.inj (hg.symm.trans hg1)
    obtain rfl := Option.some.inj (ht.symm.trans ht1)
    obtain ⟨xs, m1, rfl, hx1, hlen, hn3, hel⟩ := DataW.trod_array hu hd1
    have hxs : deBr.map (fun n => (DataW.lit (.int .u8 n) : DataW Unit)) = xs.map (·.1) := by
      have h1 := (Prod.mk.inj hx1).1
      exact DataW.agg.inj h1
    have cell : ∀ i : Nat, i < 64 → W.cell? ⟨g, i, none⟩ = some (.int .u8 (deBr.getD i 0)) := by
      intro i hi
      have h0 := hel i hi
      rw [hc, Nat.mul_one, List.getElem?_eq_getElem (by omega)] at h0
      obtain ⟨k, e1, e2, _⟩ := DataW.trod_int he h0
      have h3 := congrArg (fun l => l[i]?) hxs
      simp only [List.getElem?_map] at h3
      rw [List.getElem?_eq_getElem (show i < xs.length by omega), e2] at h3
      have h4 := congrArg (fun l => l[0]?) e1
      simp [List.getElem?_drop] at h4
      have h5 := World.var?_cell hg hv1 i
      rw [h5]
      cases hd : deBr[i]? with
      | none => rw [hd] at h3; simp at h3
      | some y =>
        rw [hd] at h3
        have hk : y = k := by simpa using h3
        subst hk
        simp [List.getD_eq_getElem?_getD, hd, h4]
    subst hgi
    refine ⟨?_, cell⟩
    have h0 := cell 0 (by decide)
    apply Classical.byContradiction
    intro hlt
    unfold World.cell? at h0
    rw [Array.getElem?_eq_none (by simpa using hlt)] at h0
    simp at h0
  have K6 : LaidT 0 10 digL W := by
    obtain ⟨g, hg, t, e, ht, hu, he, hc, hgi⟩ := gTab_digL
    obtain rfl := Option.some.inj (hg.symm.trans hg6)
    obtain rfl := Option.some.inj (ht.symm.trans ht6)
    obtain ⟨xs, m1, rfl, hx1, hlen, hn3, hel⟩ := DataW.trod_array hu hd6
    have hxs : digL.map (fun n => (DataW.lit (.int .u8 n) : DataW Unit)) = xs.map (·.1) := by
      have h1 := (Prod.mk.inj hx1).1
      exact DataW.agg.inj h1
    have cell : ∀ i : Nat, i < 10 → W.cell? ⟨g, i, none⟩ = some (.int .u8 (digL.getD i 0)) := by
      intro i hi
      have h0 := hel i hi
      rw [hc, Nat.mul_one, List.getElem?_eq_getElem (by omega)] at h0
      obtain ⟨k, e1, e2, _⟩ := DataW.trod_int he h0
      have h3 := congrArg (fun l => l[i]?) hxs
      simp only [List.getElem?_map] at h3
      rw [List.getElem?_eq_getElem (show i < xs.length by omega), e2] at h3
      have h4 := congrArg (fun l => l[0]?) e1
      simp [List.getElem?_drop] at h4
      have h5 := World.var?_cell hg hv6 i
      rw [h5]
      cases hd : digL[i]? with
      | none => rw [hd] at h3; simp at h3
      | some y =>
        rw [hd] at h3
        have hk : y = k := by simpa using h3
        subst hk
        simp [List.getD_eq_getElem?_getD, hd, h4]
    subst hgi
    refine ⟨?_, cell⟩
    have h0 := cell 0 (by decide)
    apply Classical.byContradiction
    intro hlt
    unfold World.cell? at h0
    rw [Array.getElem?_eq_none (by simpa using hlt)] at h0
    simp at h0
  exact ⟨K1, K6⟩
set_option maxRecDepth 100000 in
theorem lifted (os : Os) (started : os.Started) (H : Type) (enc : TypeId × Value → H) :
    ReturnsInHanded {} Tryz.checked os 6 .any (fun w args => (Rows.fnExactFalseByMoveSpec.pre enc Tryz.prog Tryz.f6 [] false w args ∧ laidMetH Tryz.prog laidL w) ∧ sizedMet enc Tryz.prog Tryz.f6 (OpenSpec.ofChange Rows.fnExactFalseByMoveSpec) false w args)
      (Rows.fnExactFalseByMoveSpec.post enc Tryz.prog Tryz.f6 false true false false) := by
  refine returnsInHanded_of_change_and (C := Tryz.checked) (X := fun w _ => laidMetH Tryz.prog laidL w) (fun _ _ _ hh h => h.of_heap hh) own started (by kernel_rfl) Tryz.func6
    (ChangeSpec.witness_shaped (enc := enc) (C := Tryz.checked) (os := os) (X := fun w _ => laidMetH Tryz.prog laidL w) false (doorW os) #[.string ByteArray.empty] 8 rfl (World.shaped_of_RefB (by kernel_rfl) (by kernel_rfl)) (by kernel_rfl) (by kernel_rfl) (by kernel_rfl) (door_met os _)) ?_
  intro W base args ds gs before hval0 hW hcnd hsz0 hL _
  have hsz : (DataW.weightsEach Tryz.prog (Tryz.f6.params.toList ++ Rows.fnExactFalseByMoveSpec.plain.varTypes Tryz.prog) (ds ++ gs)).all (· ≤ reachBytes) = true := hsz0
  have hval : ∀ (j : Nat) t v, Tryz.f6.params[j]? = some t → args[j]? = some v → Value.okWide Tryz.prog W .any base t v := hval0
  have hW' := hW
  obtain ⟨p, q, hA0, hV, rfl, hfz, hnd⟩ := hW
  have hA : DataW.TrodAll enc Tryz.prog W 0 (fun _ => true) true Tryz.f6.params.toList args.toList ds p := hA0
  rw [Tryz.params6] at hA hval hsz
  obtain ⟨v0, vs0, d0, ds0, p0, q0, hargs, rfl, rfl, h0, r0⟩ := trodAll_cons hA
  obtain ⟨rfl, rfl, rfl⟩ := trodAll_nil r0
  obtain rfl : args = #[v0] := by cases args; simp_all
  have hV0 := hV
  obtain ⟨gv, tv, csv, fv, dv, pv, rfl, hgv, htv, hvv, hdv, rfl⟩ := trodVars_one hV
  have hG := of_laid hL
  obtain ⟨a0, rfl, rfl, rfl, y0⟩ := open_string Tryz.underlying9 (hval 0 9 v0 rfl rfl) h0
  have w0 : a0.size ≤ 140737488351232 := by
    have z := sized_string hsz (j := 0) (t := 9) rfl rfl
    rw [Array.length_toList] at z
    exact z
  clear hA0 hval0 hsz0 hsz
  have hP := Pure.FnExactFalseByMove a0 w0
  obtain ⟨k, hk⟩ := hP
  refine (laws_FnExactFalseByMove.calls k a0 true W  hG rfl hk).mono fun e W' ⟨he, bel⟩ => ?_
  subst he
  exact ⟨_, rfl, _, _, _, [], _, _, hW', trodAll_mk1 (shut_bool Tryz.underlying4 _), (trodAll_cons_mk (shut_string Tryz.underlying9 y0) trodAll_mk0), bel.trodVars laidOut (by kernel_rfl) hV0, bel.frame _, fun h => by cases h⟩
theorem over : Rows.fnExactFalseByMoveRow.holds Tryz.pinned (OpenSpec.ofChange Rows.fnExactFalseByMoveSpec) :=
  OpenClaim.holds_of_wide 6 Tryz.f6 rfl rfl rfl rfl rfl rfl rfl ⟨rfl, rfl, rfl, rfl, rfl⟩ rfl rfl rfl rfl rfl (by kernel_rfl) Tryz.func6 (by kernel_rfl)
    (of_decide_eq_true (by kernel_rfl)) (by unfold Func.isWrapper; first | (rw [if_pos (by decide +kernel)]; kernel_rfl) | (rw [if_neg (by decide +kernel)]; exact ⟨rfl, rfl⟩))
    (fun os started H enc _ => lifted os started H enc)
theorem proved : Rows.FnExactFalseByMoveCardSaid :=
  Claim7.holds_tied_plain_at .later [] [.data, .data, .data, .data, .sentinel, .sentinel, .widerDeep, .pinned] true (true, "b648ee72b96e67558026c796c61f237241fe6d41709ef2fc8b1c32129bcb1308") true
    over (fun _ h => by cases h) (by kernel_rfl) (fun _ h => by cases h) fnExactFalseByMove_row_tie rfl ⟨rfl, rfl⟩ (by kernel_rfl) rfl
    (fun f fn hf hfn => by
      obtain rfl : f = 6 := Option.some.inj ((show Tryz.prog.funcNamed "loop.example/g01233/laws.FnExactFalseByMove" = some 6 by kernel_rfl).symm.trans hf) |>.symm
      obtain rfl : fn = Tryz.f6 := (Option.some.inj (Tryz.func6.symm.trans hfn)).symm
      exact ⟨by kernel_rfl, fun j t ht => by
        rw [Tryz.params6] at ht
        have hm : t ∈ [9] := by simpa using Array.mem_of_getElem? ht
        have hall : ([9].all fun u => !Tryz.prog.wantsStandIn u) = true := by kernel_rfl
        exact (show Tryz.prog.wantsStandIn t = false by simpa using List.all_eq_true.1 hall t hm)⟩)
    (by kernel_rfl)
#print axioms proved
end Go.Proofs.YtmjlmmfhcabnfaaGreatDoor.fnExactFalseByMove
namespace Go.Proofs.YtmjlmmfhcabnfaaGreatDoor
/-- The law, under a short name, for the claim. -/
theorem fnExactFalseByMove_holds : Rows.FnExactFalseByMoveCardSaid := fnExactFalseByMove.proved
end Go.Proofs.YtmjlmmfhcabnfaaGreatDoor
