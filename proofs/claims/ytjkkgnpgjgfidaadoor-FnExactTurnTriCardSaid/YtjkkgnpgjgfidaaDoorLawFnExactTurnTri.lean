/- Proved here: the law FnExactTurnTri answers true for every input: out of its pure statement (YtjkkgnpgjgfidaaDoorPureFnExactTurnTri) and the walk of the program (YtjkkgnpgjgfidaaDoorQFnExactTurnTrix*). No condition beyond the row's own. -/
import Derived.Test.YtjkkgnpgjgfidaaDoorRows
import Derived.Test.YtjkkgnpgjgfidaaDoorQFnExactTurnTrix8
import Derived.Test.YtjkkgnpgjgfidaaDoorPureFnExactTurnTri
import Derived.Test.YtjkkgnpgjgfidaaDoorTie
import Derived.Test.YtjkkgnpgjgfidaaDoorCards
import Derived.WalkKit
import Derived.ProofKit
import Derived.OpenShut
import Derived.ShutString
import Derived.ChangeOld
import Derived.Below
import Derived.SizedLaws
import Derived.Lib.SmallJoins
import Derived.OpenVars
import Derived.LaidMore
import Derived.LaidByTextLater
import Derived.SevenTiedAt
import Derived.Stop.Joined
namespace Go.Proofs.YtjkkgnpgjgfidaaDoor.fnExactTurnTri
open Go.ChangeShapes Go.WideShapes Go.ChangeAt Go.RowKit Go.Lib Go.Joins Go.Proofs.YtjkkgnpgjgfidaaDoorW.PrintWords Go.Proofs.YtjkkgnpgjgfidaaDoor.Q
open Go.ChangeMaps (open_string shut_string)
set_option linter.unusedVariables false
theorem own : ownKnob Tryd.prog.godebug = none := by kernel_rfl
theorem laidOut : laidOutB Tryd.prog = true := by kernel_rfl
def IsRow (k : IntKind) (w : World) (a : Option Addr) (len cap : Nat) (zs : List Int) : Prop :=
  (a = none ∧ len = 0 ∧ cap = 0 ∧ zs = []) ∨
  ∃ x, a = some x ∧ len ≤ cap ∧ cap ≤ maxLen ∧ zs.length = cap ∧ (∀ i, i < zs.length → w.cell? (x.add i) = some (.int k (zs.getD i 0))) ∧ ∀ n ∈ zs, (Lit.int k n).wf = true
/-- What the row lists. -/
def laidL : List (String × DataW Unit) := [("math/bits.deBruijn64tab", Rows.laid_math_bits_deBruijn64tab)]
theorem gTab_deBr : ∃ g, Tryd.prog.globalNamed "math/bits.deBruijn64tab" = some g ∧ ∃ t e, (Tryd.prog.globals[g]?).map (·.type) = some t ∧ Tryd.prog.underlying t = some (.array 64 e) ∧ Tryd.prog.underlying e = some (.int .u8) ∧ Tryd.prog.cellsOf e = 1 ∧ g = 0 := ⟨0, by kernel_rfl, 64, 5, by kernel_rfl, by kernel_rfl, by kernel_rfl, by kernel_rfl, rfl⟩
theorem door_met (os : Os) (args : Array Value) : laidMetH Tryd.prog laidL ((World.doorLaid Tryd.prog 400 os).forCall (fun _ _ => 0) ⟨#[], args, []⟩).memory :=
  laidMetH_of_parts3 (fuel := 8) (laidMet_of_run' 8 (by kernel_rfl) (by kernel_rfl)) (by kernel_rfl) (by kernel_rfl)
theorem of_laid {W : World} (h : laidMetH Tryd.prog laidL W) : LaidG W := by
  rw [MakeChecks.laidMetH_plain _ _ _ (by kernel_rfl)] at h
  obtain ⟨ps, ⟨g0, t0, cs0, f0, p0, q0, hg0, ht0, hv0, hd0, _⟩, _, _⟩ := h
  have K0 : LaidT 0 64 deBr W := by
    obtain ⟨g, hg, t, e, ht, hu, he, hc, hgi⟩ := gTab_deBr
    obtain rfl := Option.some.inj (hg.symm.trans hg0)
    obtain rfl := Option.some.inj (ht.symm.trans ht0)
    obtain ⟨xs, m1, rfl, hx1, hlen, hn3, hel⟩ := DataW.trod_array hu hd0
    have hxs : deBr.map (fun n => (DataW.lit (.int .u8 n) : DataW Unit)) = xs.map (·.1) := by
      have h1 := (Prod.mk.inj hx1).1
      exact DataW.agg.inj h1
    have cell : ∀ i : Nat, i < 64 → W.cell? ⟨g, i, none⟩ = some (.int .u8 (deBr.getD i 0)) := by
      intro i hi
      have h0 := hel i hi
      rw [hc, Nat.mul_one, List.getElem?_eq_getElem (by omega)] at h0
      obtain ⟨k, e1, e2, _⟩ := DataW.trod_int he h0
      have h3 := congrArg (fun l => l[i]?) hxs
      simp only [List.getElem?_map] at h3
      rw [List.getElem?_eq_getElem (show i < xs.length by omega), e2] at h3
      have h4 := congrArg (fun l => l[0]?) e1
      simp [List.getElem?_drop] at h4
      have h5 := World.var?_cell hg hv0 i
      rw [h5]
      cases hd : deBr[i]? with
      | none => rw [hd] at h3; simp at h3
      | some y =>
        rw [hd] at h3
        have hk : y = k := by simpa using h3
        subst hk
        simp [List.getD_eq_getElem?_getD, hd, h4]
    subst hgi
    refine ⟨?_, cell⟩
    have h0 := cell 0 (by decide)
    apply Classical.byContradiction
    intro hlt
    unfold World.cell? at h0
    rw [Array.getElem?_eq_none (by simpa using hlt)] at h0
    simp at h0
  exact K0
set_option maxRecDepth 100000 in
theorem lifted (os : Os) (started : os.Started) (H : Type) (enc : TypeId × Value → H) :
    ReturnsInHanded {} Tryd.checked os 4 .any (fun w args => (Rows.fnExactTurnTriSpec.pre enc Tryd.prog Tryd.f4 [] false w args ∧ laidMetH Tryd.prog laidL w) ∧ sizedMet enc Tryd.prog Tryd.f4 (OpenSpec.ofChange Rows.fnExactTurnTriSpec) false w args)
      (Rows.fnExactTurnTriSpec.post enc Tryd.prog Tryd.f4 false true false false) := by
  refine returnsInHanded_of_change_and (C := Tryd.checked) (X := fun w _ => laidMetH Tryd.prog laidL w) (fun _ _ _ hh h => h.of_heap hh) own started (by kernel_rfl) Tryd.func4
    (ChangeSpec.witness_shaped (enc := enc) (C := Tryd.checked) (os := os) (X := fun w _ => laidMetH Tryd.prog laidL w) false (World.doorLaid Tryd.prog 400 os) #[.agg #[.int .i64 0, .slice none 0 0]] 8 rfl (World.shaped_of_RefB (by kernel_rfl) (by kernel_rfl)) (by kernel_rfl) (by kernel_rfl) (by kernel_rfl) (door_met os _)) ?_
  intro W base args ds gs before hval0 hW hcnd hsz0 hL _
  have hsz : (DataW.weightsEach Tryd.prog (Tryd.f4.params.toList ++ Rows.fnExactTurnTriSpec.plain.varTypes Tryd.prog) (ds ++ gs)).all (· ≤ reachBytes) = true := hsz0
  have hval : ∀ (j : Nat) t v, Tryd.f4.params[j]? = some t → args[j]? = some v → Value.okWide Tryd.prog W .any base t v := hval0
  have hW' := hW
  obtain ⟨p, q, hA0, hV, rfl, hfz, hnd⟩ := hW
  have hA : DataW.TrodAll enc Tryd.prog W 0 (fun _ => true) true Tryd.f4.params.toList args.toList ds p := hA0
  rw [Tryd.params4] at hA hval hsz
  obtain ⟨v0, vs0, d0, ds0, p0, q0, hargs, rfl, rfl, h0, r0⟩ := trodAll_cons hA
  obtain ⟨rfl, rfl, rfl⟩ := trodAll_nil r0
  obtain rfl : args = #[v0] := by cases args; simp_all
  obtain ⟨rfl, rfl⟩ := trodVars_none hV
  have hG := of_laid hL
  have k0 := h0
  have lt0 : ∀ x ∈ p0, x.block < W.heap.size := by obtain ⟨m, hm⟩ := k0; exact DataW.trod_lt m _ _ _ hm
  obtain ⟨v0_0, v0_1, y0_0, y0_1, n0, rfl, hd0, hp0, t0_0, t0_1⟩ := open_agg2 Tryd.underlying24 (by kernel_rfl) (by kernel_rfl) (hval 0 24 v0 rfl rfl) h0
  clear hd0 hp0
  obtain ⟨a0_0, e0_0, _, w0_0⟩ := DataW.trod_int Tryd.underlying3 t0_0
  obtain rfl : v0_0 = .int .i64 a0_0 := by simpa using e0_0
  obtain ⟨A0_1, len0_1, cap0_1, z0_1, rfl, iw0_1⟩ : ∃ (a : Option Addr) (len cap : Nat) (zs : List Int), v0_1 = .slice a len cap ∧ IsRow .i64 W a len cap zs := by
    rcases open_ints Tryd.underlying22 Tryd.underlying3 (by kernel_rfl) t0_1 with ⟨hcs, _⟩ | ⟨x, l, c, zs, hcs, _, hl, hm, hz, _, hcell, hwz⟩
    · exact ⟨none, 0, 0, [], by simpa [Value.cells] using hcs, .inl ⟨rfl, rfl, rfl, rfl⟩⟩
    · exact ⟨some x, l, c, zs, by simpa [Value.cells] using hcs, .inr ⟨x, rfl, hl, hm, by simpa using hz, hcell, hwz⟩⟩
  obtain ⟨l0_1, rfl, hr0_1, hm0_1, hw0_1, hc0_1⟩ := ReadsInt.ofRowC iw0_1
  clear hA0 hval0 hsz0 hsz
  have hP := Pure.FnExactTurnTri a0_0 l0_1 w0_0 hm0_1 hw0_1
  obtain ⟨k, hk⟩ := hP
  refine (laws_FnExactTurnTri.calls k a0_0 _ _ l0_1 true W (Kd.C_of_reads (d := (0 : Int)) (h1 := fun _ => rfl) hr0_1) hc0_1 hG rfl hk).mono fun e W' ⟨he, bel⟩ => ?_
  subst he
  exact ⟨_, rfl, _, _, _, [], _, [], hW', trodAll_mk1 (shut_bool Tryd.underlying4 _), (trodAll_cons_mk (Below.trod laidOut (by kernel_rfl) (of_decide_eq_true (by kernel_rfl)) k0 bel lt0) trodAll_mk0), rfl, bel.frame _, fun h => by cases h⟩
theorem over : Rows.fnExactTurnTriRow.holds Tryd.pinned (OpenSpec.ofChange Rows.fnExactTurnTriSpec) :=
  OpenClaim.holds_of_wide 4 Tryd.f4 rfl rfl rfl rfl rfl rfl rfl ⟨rfl, rfl, rfl, rfl, rfl⟩ rfl rfl rfl rfl rfl (by kernel_rfl) Tryd.func4 (by kernel_rfl)
    (of_decide_eq_true (by kernel_rfl)) (by unfold Func.isWrapper; first | (rw [if_pos (by decide +kernel)]; kernel_rfl) | (rw [if_neg (by decide +kernel)]; exact ⟨rfl, rfl⟩))
    (fun os started H enc _ => lifted os started H enc)
theorem proved : Rows.FnExactTurnTriCardSaid :=
  Claim7.holds_tied_plain_at .later [] [.data] true (true, "d868cd0a3b15b9df9d08639bb8794fa5928488fe3d1059496bea551418b76e17") false
    over (fun _ h => by cases h) (by kernel_rfl) (fun _ h => by cases h) fnExactTurnTri_row_tie rfl ⟨rfl, rfl⟩ (by kernel_rfl) rfl
    (fun f fn hf hfn => by
      obtain rfl : f = 4 := Option.some.inj ((show Tryd.prog.funcNamed "loop.example/g01233/laws.FnExactTurnTri" = some 4 by kernel_rfl).symm.trans hf) |>.symm
      obtain rfl : fn = Tryd.f4 := (Option.some.inj (Tryd.func4.symm.trans hfn)).symm
      exact ⟨by kernel_rfl, fun j t ht => by
        rw [Tryd.params4] at ht
        have hm : t ∈ [24] := by simpa using Array.mem_of_getElem? ht
        have hall : ([24].all fun u => !Tryd.prog.wantsStandIn u) = true := by kernel_rfl
        exact (show Tryd.prog.wantsStandIn t = false by simpa using List.all_eq_true.1 hall t hm)⟩)
    (by kernel_rfl)
#print axioms proved
end Go.Proofs.YtjkkgnpgjgfidaaDoor.fnExactTurnTri
namespace Go.Proofs.YtjkkgnpgjgfidaaDoor
/-- The law, under a short name, for the claim. -/
theorem fnExactTurnTri_holds : Rows.FnExactTurnTriCardSaid := fnExactTurnTri.proved
end Go.Proofs.YtjkkgnpgjgfidaaDoor
