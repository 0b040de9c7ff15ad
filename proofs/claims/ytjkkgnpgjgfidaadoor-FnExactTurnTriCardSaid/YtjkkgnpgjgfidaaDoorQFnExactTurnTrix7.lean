-- written by a program of this session, pm.py, for this claim
-- half the indentation
import Derived.Test.YtjkkgnpgjgfidaaDoorQFnExactTurnTrix0
import Derived.Test.YtjkkgnpgjgfidaaDoorQFnExactTurnTrix5
import Derived.Test.YtjkkgnpgjgfidaaDoorQFnExactTurnTrix6
namespace Go.Proofs.YtjkkgnpgjgfidaaDoor.Q
open Go.RowKit Go.Proofs.YtjkkgnpgjgfidaaDoorW.PrintWords Go.Proofs.YtjkkgnpgjgfidaaDoorW.PrintLast Go.Proofs.YtjkkgnpgjgfidaaDoorW.PrintMore
attribute [local go_sem] max2_int min2_int max_two min_two max_three min_three max_four min_four   -- for this text's walks alone
set_option linter.unusedVariables false
set_option linter.unusedSimpArgs false

/-! ### impl_turnedTri: function 26 -/
/- a map whose keys are pairs of spots -/
open Go.Maps
theorem laidOut_ : laidOutB Tryd.prog = true := by kernel_rfl
theorem row60 : (60 : TypeId) < Tryd.prog.types.size := of_decide_eq_true (by kernel_rfl)
theorem wide60 : (match Tryd.prog.underlying 60 with | some (.array _ _) | some (.struct _) => true | _ => false) = true := by rw [Tryd.underlying60]
theorem law60 : Keyed Tryd.prog 60 := Keyed.of_law (deep_law_laid laidOut_ (m := 3) (by omega) row60 (by kernel_rfl) wide60)
def keyV (p q r s : Int) : Value := .agg #[.int .i64 p, .int .i64 q, .int .i64 r, .int .i64 s]
theorem cells60 : Tryd.prog.cellsOf 60 = 4 := by kernel_rfl
theorem cells48 : Tryd.prog.cellsOf 48 = 2 := by kernel_rfl
theorem cells3 : Tryd.prog.cellsOf 3 = 1 := by kernel_rfl
theorem lit3 (n : Nat) (x : Int) (h : (Lit.int .i64 x).wf = true) : Tryd.prog.keyLits (n + 1) 3 [.int .i64 x] = some [.int .i64 x] := by
 unfold Program.keyLits
 rw [Tryd.underlying3]
 simp [h]
theorem lit48 (n : Nat) (x y : Int) (hx : (Lit.int .i64 x).wf = true) (hy : (Lit.int .i64 y).wf = true) : Tryd.prog.keyLits (n + 2) 48 [.int .i64 x, .int .i64 y] = some [.int .i64 x, .int .i64 y] := by
 unfold Program.keyLits
 rw [Tryd.underlying48]
 simp [cells48, cells3, lit3 n x hx, lit3 n y hy]
theorem lit60 (n : Nat) (p q r s : Int) (hp : (Lit.int .i64 p).wf = true) (hq : (Lit.int .i64 q).wf = true) (hr : (Lit.int .i64 r).wf = true) (hs : (Lit.int .i64 s).wf = true) : Tryd.prog.keyLits (n + 3) 60 [.int .i64 p, .int .i64 q, .int .i64 r, .int .i64 s] = some [.int .i64 p, .int .i64 q, .int .i64 r, .int .i64 s] := by
 unfold Program.keyLits
 rw [Tryd.underlying60]
 simp [cells60, cells48, lit48 n p q hp hq, lit48 n r s hr hs, List.range, List.range.loop]
theorem key_is (p q r s : Int) (hp : (Lit.int .i64 p).wf = true) (hq : (Lit.int .i64 q).wf = true) (hr : (Lit.int .i64 r).wf = true) (hs : (Lit.int .i64 s).wf = true) : keyOf Tryd.prog 60 (keyV p q r s) = some (.string (keyBytes [.int .i64 p, .int .i64 q, .int .i64 r, .int .i64 s])) := by
 have h1 : Tryd.prog.keyType 60 = true := by kernel_rfl
 have h2 : Value.formed Tryd.prog 60 (keyV p q r s) = true := by simp [Value.formed, keyV, Tryd.underlying60, cells60]
 have h3 : Tryd.prog.keyLits (Tryd.prog.types.size + 1) 60 (keyV p q r s).cells.toList = some [.int .i64 p, .int .i64 q, .int .i64 r, .int .i64 s] := lit60 _ p q r s hp hq hr hs
 unfold keyOf
 rw [Tryd.underlying60]
 simp only [h1, h2, h3]
 rfl
/-- Block b is a map of spots' pairs that reads as m. -/
def MapIs (w : World) (b n : Nat) (m : Int → Int → Int → Int → Int) : Prop := ∃ D : DataW Unit, w.ownsMap Tryd.prog 60 (plainElem Tryd.prog 53) b n D ∧ ∀ p q r s l, keyOf Tryd.prog 60 (keyV p q r s) = some l → D.atKey l (.lit (.int .u64 0)) = .lit (.int .u64 (m p q r s))
def mput (m : Int → Int → Int → Int → Int) (p q r s e : Int) : Int → Int → Int → Int → Int := fun p' q' r' s' => if p' = p ∧ q' = q ∧ r' = r ∧ s' = s then e else m p' q' r' s'
theorem mapis_made (w : World) : MapIs (w.alloc (.map #[] 0)) w.heap.size 0 (fun _ _ _ _ => 0) := ⟨_, World.ownsMap_made _ _ _ _, fun _ _ _ _ _ _ => rfl⟩
theorem mapis_look {w : World} {b n : Nat} {m : Int → Int → Int → Int → Int} (h : MapIs w b n m) (p q r s : Int) (hp : (Lit.int .i64 p).wf = true) (hq : (Lit.int .i64 q).wf = true) (hr : (Lit.int .i64 r).wf = true) (hs : (Lit.int .i64 s).wf = true) : (Instr.lookup 51 (.map (some b)) (keyV p q r s) false).run Tryd.prog w = .ok (.int .u64 (m p q r s)) w := by
 obtain ⟨D, hown, hat⟩ := h
 obtain ⟨c, hrun, hc, _⟩ := hown.lookup_int law60 Tryd.underlying51 Tryd.underlying53 (by kernel_rfl) (key_is p q r s hp hq hr hs)
 have h2 := hat p q r s _ (key_is p q r s hp hq hr hs)
 rw [hc] at h2
 injection h2 with h2
 injection h2 with _ h2
 rw [hrun, h2]
theorem mapis_put {w : World} {b n : Nat} {m : Int → Int → Int → Int → Int} (h : MapIs w b n m) (hn : n < maxLen) (p q r s e : Int) (hp : (Lit.int .i64 p).wf = true) (hq : (Lit.int .i64 q).wf = true) (hr : (Lit.int .i64 r).wf = true) (hs : (Lit.int .i64 s).wf = true) (he : (Lit.int .u64 e).wf = true) :
  ∃ w', (Instr.mapUpdate 51 (.map (some b)) (keyV p q r s) (.int .u64 e)).run Tryd.prog w = .ok () w' ∧ MapIs w' b (n + 1) (mput m p q r s e) ∧ w.grownBy w' (some b) := by
 obtain ⟨D, hown, hat⟩ := h
 have hk := key_is p q r s hp hq hr hs
 obtain ⟨w', hrun, hown', hg⟩ := hown.update law60 Tryd.underlying51 hn hk (plainElem_int Tryd.underlying53 he)
 refine ⟨w', hrun, ⟨_, hown', fun p' q' r' s' l hl => ?_⟩, hg⟩
 have hm : IsMap D := by obtain ⟨es, _, _, _, _, rfl⟩ := hown; exact ⟨_, rfl⟩
 unfold mput
 by_cases hc : p' = p ∧ q' = q ∧ r' = r ∧ s' = s
 ·obtain ⟨rfl, rfl, rfl, rfl⟩ := hc
  rw [if_pos ⟨rfl, rfl, rfl, rfl⟩]
  rw [hk] at hl
  obtain rfl := Option.some.inj hl
  exact atKey_put_same hm (law60.key hk) _ _
 ·rw [if_neg hc, atKey_put_other (fun e1 => hc ?_)]
  ·exact hat _ _ _ _ _ hl
  ·rw [e1] at hl
   have := law60.inj hl hk
   simp only [keyV, Value.agg.injEq] at this
   simpa using this
theorem mapis_grown {w w' : World} {b n : Nat} {m : Int → Int → Int → Int → Int} {row : Option Nat} (h : MapIs w b n m) (hg : w.grownBy w' row) (hne : some b ≠ row) : MapIs w' b n m := by
 obtain ⟨D, hown, hat⟩ := h
 exact ⟨D, hown.kept hg hne, hat⟩
theorem mapis_alloc {w : World} {b n : Nat} {m : Int → Int → Int → Int → Int} (h : MapIs w b n m) (o : Obj) : MapIs (w.alloc o) b n m := mapis_grown h (World.grownBy_alloc w o none) (by simp)
theorem mapis_drew {w : World} {b n : Nat} {m : Int → Int → Int → Int → Int} (h : MapIs w b n m) : MapIs w.drew b n m := h
theorem mapis_far {w : World} {b n g i : Nat} {m : Int → Int → Int → Int → Int} {v : Value} (h : MapIs w b n m) (hc : w.cell? ⟨g, i, none⟩ = some v) : g ≠ b := by
 rintro rfl
 obtain ⟨D, ⟨es, clock, hb, _⟩, _⟩ := h
 simp [World.cell?, hb] at hc
theorem mapis_cell {w w' : World} {b n g i : Nat} {m : Int → Int → Int → Int → Int} {v : Value} (h : MapIs w b n m) (hg : w.grownBy w' (some b)) (hc : w.cell? ⟨g, i, none⟩ = some v) : w'.cell? ⟨g, i, none⟩ = some v := by
 have hne := mapis_far h hc
 have hl := World.block_lt_of_cell? _ _ hc
 have hb := hg.block g hl (fun e => hne (Option.some.inj e))
 simpa [World.cell?, hb] using hc
theorem grown_cell {w w' : World} {g i : Nat} {v : Value} {row : Option Nat} (hg : w.grownBy w' row) (hne : some g ≠ row) (hc : w.cell? ⟨g, i, none⟩ = some v) : w'.cell? ⟨g, i, none⟩ = some v := by
 have hb := hg.block g (World.block_lt_of_cell? _ _ hc) hne
 simpa [World.cell?, hb] using hc
theorem grown_more {w w' : World} (b : Nat) (h : w.grownBy w' none) : w.grownBy w' (some b) := ⟨h.os, h.tape, h.output, h.size, fun i hi _ => h.block i hi (by simp)⟩
theorem grown_drew (w : World) (row : Option Nat) : w.grownBy w.drew row := ⟨rfl, rfl, rfl, Nat.le_refl _, fun _ _ _ => rfl⟩
theorem grown_frozen {w w' : World} {g i : Nat} {v : Value} {row : Option Nat} (hg : w.grownBy w' row) (hne : some g ≠ row) (hc : w.cell? ⟨g, i, none⟩ = some v) (hf : w.frozen? ⟨g, i, none⟩ = false) : w'.frozen? ⟨g, i, none⟩ = false := by
 have hb := hg.block g (World.block_lt_of_cell? _ _ hc) hne
 simpa [World.frozen?, hb] using hf
theorem below_grown {w w' : World} (h : Below w.heap.size w w') (row : Option Nat) : w.grownBy w' row := ⟨h.os, h.tape, h.output, h.size, fun i hi _ => h.block i hi⟩
/-- The first closure: an edge is laid under both its ends' pairs. -/
theorem lay_both (a0 a1 b0 b1 e : Int) (g b n : Nat) (m : Int → Int → Int → Int → Int) (W : World) (hc : W.cell? ⟨g, 0, none⟩ = some (.map (some b))) (hm : MapIs W b n m) (hn : n + 1 < maxLen) (w0 : (Lit.int .i64 a0).wf = true) (w1 : (Lit.int .i64 a1).wf = true) (w2 : (Lit.int .i64 b0).wf = true) (w3 : (Lit.int .i64 b1).wf = true) (we : (Lit.int .u64 e).wf = true) :
 Calls Tryd.prog 48 #[.agg #[.int .i64 a0, .int .i64 a1], .agg #[.int .i64 b0, .int .i64 b1], .int .u64 e, .pointer (some ⟨g, 0, none⟩)] W fun r w' => r = .returned (.tuple #[]) ∧ MapIs w' b (n + 2) (mput (mput m a0 a1 b0 b1 e) b0 b1 a0 a1 e) ∧ W.grownBy w' (some b) := by
 go_enter Tryd.func48, Tryd.ntmps48
 go_upto_region 1 with (fail)
 have hE := blk_alloc (blk_new W (.cells #[.int .i64 a0, .int .i64 a1] 48)) (.cells #[.int .i64 b0, .int .i64 b1] 48)
 have hF := blk_new (W.alloc (.cells #[.int .i64 a0, .int .i64 a1] 48)) (.cells #[.int .i64 b0, .int .i64 b1] 48)
 rw [show (W.alloc (.cells #[.int .i64 a0, .int .i64 a1] 48)).heap.size = W.heap.size + 1 by simp] at hF
 have hg0 := (World.grownBy_alloc W (.cells #[.int .i64 a0, .int .i64 a1] 48) none).trans (World.grownBy_alloc (W.alloc (.cells #[.int .i64 a0, .int .i64 a1] 48)) (.cells #[.int .i64 b0, .int .i64 b1] 48) none)
 have hm1 := mapis_alloc (mapis_alloc hm (.cells #[.int .i64 a0, .int .i64 a1] 48)) (.cells #[.int .i64 b0, .int .i64 b1] 48)
 have hc1 := grown_cell hg0 (by simp) hc
 have hz0 : ∀ w', (((W.alloc (.cells #[.int .i64 a0, .int .i64 a1] 48)).alloc (.cells #[.int .i64 b0, .int .i64 b1] 48))) = w' → w'.cell? ⟨W.heap.size, 0, none⟩ = some (.int .i64 a0) ∧ w'.cell? ⟨W.heap.size, 1, none⟩ = some (.int .i64 a1) ∧ w'.cell? ⟨W.heap.size + 1, 0, none⟩ = some (.int .i64 b0) ∧ w'.cell? ⟨W.heap.size + 1, 1, none⟩ = some (.int .i64 b1) := fun w' h => h ▸ ⟨blk_cell hE 0, blk_cell hE 1, blk_cell hF 0, blk_cell hF 1⟩
 generalize (W.alloc (.cells #[.int .i64 a0, .int .i64 a1] 48)).alloc (.cells #[.int .i64 b0, .int .i64 b1] 48) = W1 at hg0 hm1 hc1 hz0 ⊢
 obtain ⟨k0, k1, k2, k3⟩ := hz0 W1 rfl
 clear hE hF hz0
 obtain ⟨wa, ra, ma, ga⟩ := mapis_put (mapis_drew hm1) (by omega) a0 a1 b0 b1 e w0 w1 w2 w3 we
 obtain ⟨wb, rb, mb, gb⟩ := mapis_put ma hn b0 b1 a0 a1 e w2 w3 w0 w1 we
 unfold keyV at ra rb
 have GA := Aside0.mk (((grown_more b hg0).trans (grown_drew W1 (some b))).trans ga)
 have GB := Aside0.mk (GA.out.trans gb)
 have MB := Aside0.mk mb
 have K1 : W1.drew.cell? ⟨g, 0, none⟩ = some (.map (some b)) ∧ W1.drew.cell? ⟨W.heap.size, 0, none⟩ = some (.int .i64 a0) ∧ W1.drew.cell? ⟨W.heap.size, 1, none⟩ = some (.int .i64 a1) ∧ W1.drew.cell? ⟨W.heap.size + 1, 0, none⟩ = some (.int .i64 b0) ∧ W1.drew.cell? ⟨W.heap.size + 1, 1, none⟩ = some (.int .i64 b1) := ⟨hc1, k0, k1, k2, k3⟩
 have K2 : wa.cell? ⟨g, 0, none⟩ = some (.map (some b)) ∧ wa.cell? ⟨W.heap.size, 0, none⟩ = some (.int .i64 a0) ∧ wa.cell? ⟨W.heap.size, 1, none⟩ = some (.int .i64 a1) ∧ wa.cell? ⟨W.heap.size + 1, 0, none⟩ = some (.int .i64 b0) ∧ wa.cell? ⟨W.heap.size + 1, 1, none⟩ = some (.int .i64 b1) := ⟨mapis_cell (mapis_drew hm1) ga K1.1, mapis_cell (mapis_drew hm1) ga K1.2.1, mapis_cell (mapis_drew hm1) ga K1.2.2.1, mapis_cell (mapis_drew hm1) ga K1.2.2.2.1, mapis_cell (mapis_drew hm1) ga K1.2.2.2.2⟩
 have K3 : wb.cell? ⟨g, 0, none⟩ = some (.map (some b)) ∧ wb.cell? ⟨W.heap.size, 0, none⟩ = some (.int .i64 a0) ∧ wb.cell? ⟨W.heap.size, 1, none⟩ = some (.int .i64 a1) ∧ wb.cell? ⟨W.heap.size + 1, 0, none⟩ = some (.int .i64 b0) ∧ wb.cell? ⟨W.heap.size + 1, 1, none⟩ = some (.int .i64 b1) := ⟨mapis_cell ma gb K2.1, mapis_cell ma gb K2.2.1, mapis_cell ma gb K2.2.2.1, mapis_cell ma gb K2.2.2.2.1, mapis_cell ma gb K2.2.2.2.2⟩
 clear hc hm hc1 hg0 hm1 ma ga mb gb k0 k1 k2 k3
 go_region_held3 (fun w' => w'.cell? ⟨g, 0, none⟩ = some (.map (some b)) ∧ w'.cell? ⟨W.heap.size, 0, none⟩ = some (.int .i64 a0) ∧ w'.cell? ⟨W.heap.size, 1, none⟩ = some (.int .i64 a1) ∧ w'.cell? ⟨W.heap.size + 1, 0, none⟩ = some (.int .i64 b0) ∧ w'.cell? ⟨W.heap.size + 1, 1, none⟩ = some (.int .i64 b1))
  (first | exact K1 | exact K2 | exact K3)
  ((fail))
 all_goals
  go_wp2
  go_end0
  exact ⟨rfl, MB.out, GB.out⟩
def mvA (n p q : Int) : Int := wrap64 (wrap64 (n - p) + q)
def mvB (n p q : Int) : Int := wrap64 (n - p)
/-- What the move holds. -/
def MvOk (n : Int) (gt : Nat) (W : World) : Prop := W.cell? ⟨gt, 0, none⟩ = some (.int .i64 n)
theorem cell_keepM {wc w1 : World} {p : Addr} {v : Value} (h : wc.cell? p = some v) (hb : Below wc.heap.size wc w1) : w1.cell? p = some v := (hb.cell (World.block_lt_of_cell? _ _ h)).trans h
theorem mapis_below {w w' : World} {b n : Nat} {m : Int → Int → Int → Int → Int} (h : MapIs w b n m) (hb : Below w.heap.size w w') : MapIs w' b n m := mapis_grown h (below_grown hb none) (by simp)
theorem MvOk.below {n : Int} {gt : Nat} {W W1 : World} (h : MvOk n gt W) (hb : Below W.heap.size W W1) : MvOk n gt W1 := cell_keepM h hb
theorem MvOk.kept {n : Int} {gt g : Nat} {W W1 : World} (h : MvOk n gt W) (hk : Kept W W1 (fun k => k = g)) (hne : gt ≠ g) : MvOk n gt W1 := cell_kept h hk hne
theorem move_at (n p q : Int) (gt : Nat) (W : World) (hv : MvOk n gt W) : Calls Tryd.prog 40 #[.agg #[.int .i64 p, .int .i64 q], .pointer (some ⟨gt, 0, none⟩)] W fun r w' => r = .returned (.agg #[.int .i64 (mvA n p q), .int .i64 (mvB n p q)]) ∧ Below W.heap.size W w' := by
 have h0 : W.cell? ⟨gt, 0, none⟩ = some (.int .i64 n) := hv
 have h1 := Go.Lib.cell?_alloc_some (.cells #[.int .i64 p, .int .i64 q] 48) h0
 have h2 := Go.Lib.cell?_alloc_some (.cells #[.int .i64 0, .int .i64 0] 48) h1
 go_enter Tryd.func40, Tryd.ntmps40
 go_wp2
 have hF := blk_new (W.alloc (.cells #[.int .i64 p, .int .i64 q] 48)) (.cells #[.int .i64 (wrap64 (wrap64 (n - p) + q)), .int .i64 (wrap64 (n - p))] 48)
 rw [show (W.alloc (.cells #[.int .i64 p, .int .i64 q] 48)).heap.size = W.heap.size + 1 by simp] at hF
 refine bodyPost_ret (results_cell_row rfl _ _ (W.heap.size + 1) 48 #[.int .i64 (wrap64 (wrap64 (n - p) + q)), .int .i64 (wrap64 (n - p))] (0, 0) _ rfl hF Tryd.underlying48 rfl (by kernel_rfl)) rfl ?_
 exact ⟨rfl, below_alloc (below_alloc (Below.refl _ _) _) _⟩
/-- What the drawing of one edge reads. -/
def DS (go gw gm gt g b nn : Nat) (n o a0 a1 b0 b1 : Int) (m : Int → Int → Int → Int → Int) (w' : World) : Prop := w'.cell? ⟨go, 0, none⟩ = some (.int .u64 o) ∧ w'.cell? ⟨gw, 0, none⟩ = some (.map (some b)) ∧ w'.cell? ⟨gm, 0, none⟩ = some (.func (.func 40) #[] #[.pointer (some ⟨gt, 0, none⟩)]) ∧ w'.cell? ⟨g, 0, none⟩ = some (.int .i64 a0) ∧ w'.cell? ⟨g, 1, none⟩ = some (.int .i64 a1) ∧ w'.cell? ⟨g + 1, 0, none⟩ = some (.int .i64 b0) ∧ w'.cell? ⟨g + 1, 1, none⟩ = some (.int .i64 b1) ∧ MapIs w' b nn m ∧ MvOk n gt w'
theorem DS.on {go gw gm gt g b nn : Nat} {n o a0 a1 b0 b1 : Int} {m : Int → Int → Int → Int → Int} {w w1 : World} (h : DS go gw gm gt g b nn n o a0 a1 b0 b1 m w) (hb : Below w.heap.size w w1) : DS go gw gm gt g b nn n o a0 a1 b0 b1 m w1 :=
 ⟨cell_keepM h.1 hb, cell_keepM h.2.1 hb, cell_keepM h.2.2.1 hb, cell_keepM h.2.2.2.1 hb, cell_keepM h.2.2.2.2.1 hb, cell_keepM h.2.2.2.2.2.1 hb, cell_keepM h.2.2.2.2.2.2.1 hb, mapis_below h.2.2.2.2.2.2.2.1 hb, h.2.2.2.2.2.2.2.2.below hb⟩
theorem onM {w w1 w2 : World} (hB : Below w.heap.size w w1) (hb : Below w1.heap.size w1 w2) : Below w.heap.size w w2 := hB.trans (hb.mono hB.size)
theorem grown_set {w w1 : World} {g : Nat} (h : Below w.heap.size w w1) (v : Value) : w.grownBy (w1.setCell ⟨g, 0, none⟩ v) (some g) :=
 ⟨h.os, h.tape, h.output, by simpa [World.setCell] using h.size, fun i hi hne => (Below.heap_setCell w1 ⟨g, 0, none⟩ v i (fun e => hne (by rw [e]))).trans (h.block i hi)⟩
theorem below_grown2 {w w1 w2 : World} {g : Nat} (h : Below w.heap.size w w1) (hg : w1.grownBy w2 (some g)) (hge : w.heap.size ≤ g) : Below w.heap.size w w2 :=
 ⟨hg.os.trans h.os, hg.tape.trans h.tape, hg.output.trans h.output, Nat.le_trans h.size hg.size, fun k hk => (hg.block k (Nat.lt_of_lt_of_le hk h.size) (fun e => by have := Option.some.inj e; omega)).trans (h.block k hk)⟩
def dOut (s e o x : Int) : Int := if Go.bits .and .u64 s e = 0 then o else Go.bits .or .u64 o x
/-- The second closure. -/
theorem draw_one (n a0 a1 b0 b1 e s o : Int) (gs go gw gm gt b nn : Nat) (m : Int → Int → Int → Int → Int) (W : World) (h0 : W.cell? ⟨gs, 0, none⟩ = some (.int .u64 s)) (h1 : W.heap[go]? = some (.cells #[.int .u64 o] 53 (0, 0))) (h2 : W.cell? ⟨gw, 0, none⟩ = some (.map (some b))) (h3 : W.cell? ⟨gm, 0, none⟩ = some (.func (.func 40) #[] #[.pointer (some ⟨gt, 0, none⟩)])) (hm : MapIs W b nn m) (hv : MvOk n gt W)
  (v0 : (Lit.int .i64 (mvA n a0 a1)).wf = true) (v1 : (Lit.int .i64 (mvB n a0 a1)).wf = true) (v2 : (Lit.int .i64 (mvA n b0 b1)).wf = true) (v3 : (Lit.int .i64 (mvB n b0 b1)).wf = true) :
 Calls Tryd.prog 49 #[.agg #[.int .i64 a0, .int .i64 a1], .agg #[.int .i64 b0, .int .i64 b1], .int .u64 e, .pointer (some ⟨gs, 0, none⟩), .pointer (some ⟨go, 0, none⟩), .pointer (some ⟨gw, 0, none⟩), .pointer (some ⟨gm, 0, none⟩)] W fun r w' => r = .returned (.tuple #[]) ∧ w'.heap[go]? = some (.cells #[.int .u64 (dOut s e o (m (mvA n a0 a1) (mvB n a0 a1) (mvA n b0 b1) (mvB n b0 b1)))] 53 (0, 0)) ∧ W.grownBy w' (some go) := by
 have eg : ∀ args w, (callFunc 40 args).run Tryd.prog w = .ok (.enter 40 args) w := enters_of Tryd.func40 (by kernel_rfl) rfl
 go_enter Tryd.func49, Tryd.ntmps49
 go_upto_region 1 with (fail)
 have hE := blk_alloc (blk_new W (.cells #[.int .i64 a0, .int .i64 a1] 48)) (.cells #[.int .i64 b0, .int .i64 b1] 48)
 have hF := blk_new (W.alloc (.cells #[.int .i64 a0, .int .i64 a1] 48)) (.cells #[.int .i64 b0, .int .i64 b1] 48)
 rw [show (W.alloc (.cells #[.int .i64 a0, .int .i64 a1] 48)).heap.size = W.heap.size + 1 by simp] at hF
 have hb0 := below_alloc (below_alloc (Below.refl W.heap.size W) (.cells #[.int .i64 a0, .int .i64 a1] 48)) (.cells #[.int .i64 b0, .int .i64 b1] 48)
 generalize (W.alloc (.cells #[.int .i64 a0, .int .i64 a1] 48)).alloc (.cells #[.int .i64 b0, .int .i64 b1] 48) = W1 at hE hF hb0 ⊢
 have BG := Aside0.mk (blk_below h1 hb0)
 have KE := Aside0.mk hb0
 have h4 := cell_keepM h0 hb0
 have K : DS go gw gm gt (W.heap.size) b nn n o a0 a1 b0 b1 m W1.drew := ⟨blk_cell (blk_drew BG.out) 0, cell_keepM h2 (below_drew hb0), cell_keepM h3 (below_drew hb0), blk_cell hE 0, blk_cell hE 1, blk_cell hF 0, blk_cell hF 1, mapis_drew (mapis_below hm hb0), hv.below (below_drew hb0)⟩
 clear hE hF h0 h1 h2 h3 hm hv hb0
 by_cases hc : Go.bits .and .u64 s e = 0
 ·have hcz : (Go.bits .and .u64 s e != 0) = false := by rw [hc]; rfl
  have hd : dOut s e o (m (mvA n a0 a1) (mvB n a0 a1) (mvA n b0 b1) (mvB n b0 b1)) = o := if_pos hc
  have HD := Aside0.mk hd
  clear hd hc K
  go_wp2
  go_end0
  exact ⟨rfl, by rw [HD.out]; exact BG.out, below_grown KE.out _⟩
 ·have hcz : (Go.bits .and .u64 s e != 0) = true := bne_iff_ne.2 hc
  have hd : dOut s e o (m (mvA n a0 a1) (mvB n a0 a1) (mvA n b0 b1) (mvB n b0 b1)) = Go.bits .or .u64 o (m (mvA n a0 a1) (mvB n a0 a1) (mvA n b0 b1) (mvB n b0 b1)) := if_neg hc
  have HDO := Aside0.mk hd
  clear hd hc
  go_upto_region 2 with (fail)
  clear h4 hcz
  refine start_ (n := 12) (S := DS go gw gm gt (W.heap.size) b nn n o a0 a1 b0 b1 m) (ds := [11]) #[false, false, false, false, false, false, false, false, false, false, false, false] (by kernel_rfl) rfl rfl K (fun hHeld => ?_)
  refine take_ (i := 0) (N := some 14) (v := ?_) (a' := ?_) #[true, false, false, false, false, false, false, false, false, false, false, false] rfl rfl (by kernel_rfl) (fun _ _ _ h => h) (Or.inl ⟨by rfl, ?_⟩) hHeld ?_ ?_
  rotate_left
  ·rintro w' ⟨s0, s1, s2, s3, s4, s5, s6, hm, hv⟩
   go_simp
   with_reducible rfl
  rotate_left
  ·simp only [Act.put, List.setIfInBounds_toArray, List.set_cons_zero, List.set_cons_succ, i64_w, i32_w]
   rfl
  refine take_ (i := 1) (N := some 15) (v := ?_) (a' := ?_) #[true, true, false, false, false, false, false, false, false, false, false, false] rfl rfl (by kernel_rfl) (fun _ _ _ h => h) (Or.inl ⟨by rfl, ?_⟩) hHeld ?_ ?_
  rotate_left
  ·rintro w' ⟨s0, s1, s2, s3, s4, s5, s6, hm, hv⟩
   go_simp
   with_reducible rfl
  rotate_left
  ·simp only [Act.put, List.setIfInBounds_toArray, List.set_cons_zero, List.set_cons_succ, i64_w, i32_w]
   rfl
  refine take_ (i := 2) (N := some 16) (v := ?_) (a' := ?_) #[true, true, true, false, false, false, false, false, false, false, false, false] rfl rfl (by kernel_rfl) (fun _ _ _ h => h) (Or.inl ⟨by rfl, ?_⟩) hHeld ?_ ?_
  rotate_left
  ·rintro w' ⟨s0, s1, s2, s3, s4, s5, s6, hm, hv⟩
   go_simp
   with_reducible rfl
  rotate_left
  ·simp only [Act.put, List.setIfInBounds_toArray, List.set_cons_zero, List.set_cons_succ, i64_w, i32_w]
   rfl
  refine take_ (i := 3) (N := some 17) (v := ?_) (a' := ?_) #[true, true, true, true, false, false, false, false, false, false, false, false] rfl rfl (by kernel_rfl) (fun _ _ _ h => h) (Or.inl ⟨by rfl, ?_⟩) hHeld ?_ ?_
  rotate_left
  ·rintro w' ⟨s0, s1, s2, s3, s4, s5, s6, hm, hv⟩
   go_simp
   with_reducible rfl
  rotate_left
  ·simp only [Act.put, List.setIfInBounds_toArray, List.set_cons_zero, List.set_cons_succ, i64_w, i32_w]
   rfl
  refine take_ (i := 5) (N := some 19) (v := ?_) (a' := ?_) #[true, true, true, true, false, true, false, false, false, false, false, false] rfl rfl (by kernel_rfl) (fun _ _ _ h => h) (Or.inl ⟨by rfl, ?_⟩) hHeld ?_ ?_
  rotate_left
  ·rintro w' ⟨s0, s1, s2, s3, s4, s5, s6, hm, hv⟩
   go_simp
   with_reducible rfl
  rotate_left
  ·simp only [Act.put, List.setIfInBounds_toArray, List.set_cons_zero, List.set_cons_succ, i64_w, i32_w]
   rfl
  refine take_ (i := 6) (N := some 20) (v := ?_) (a' := ?_) #[true, true, true, true, false, true, true, false, false, false, false, false] rfl rfl (by kernel_rfl) (fun _ _ _ h => h) (Or.inl ⟨by rfl, ?_⟩) hHeld ?_ ?_
  rotate_left
  ·rintro w' ⟨s0, s1, s2, s3, s4, s5, s6, hm, hv⟩
   go_simp
   with_reducible rfl
  rotate_left
  ·simp only [Act.put, List.setIfInBounds_toArray, List.set_cons_zero, List.set_cons_succ, i64_w, i32_w]
   rfl
  refine one_ (i := 4) (N := some 18) #[true, true, true, true, true, true, true, false, false, false, false, false] rfl rfl (by kernel_rfl) (by decide) (fun K hK => ?_)
  refine call_ 40 #[.agg #[.int .i64 a0, .int .i64 a1], .pointer (some ⟨gt, 0, none⟩)] (by rfl) rfl (by first | (go_simp; done) | (go_simp; exact eg _ _)) ?_
  refine (move_at n a0 a1 gt _ hHeld.2.2.2.2.2.2.2.2).mono ?_
  rintro e w3 ⟨rfl, hb⟩
  refine ⟨_, rfl, ?_⟩
  have hb3 := hb
  refine hK.out _ _ (hHeld.on hb) (fun hHeld => ?_)
  clear hK K
  refine norm_ (a' := ?_) ?_ ?_
  rotate_left
  ·show Act.put _ (some 18) _ = _
   simp only [Act.put, List.setIfInBounds_toArray, List.set_cons_zero, List.set_cons_succ, i64_w, i32_w]
   rfl
  refine one_ (i := 7) (N := some 21) #[true, true, true, true, true, true, true, true, false, false, false, false] rfl rfl (by kernel_rfl) (by decide) (fun K hK => ?_)
  refine call_ 40 #[.agg #[.int .i64 b0, .int .i64 b1], .pointer (some ⟨gt, 0, none⟩)] (by rfl) rfl (by first | (go_simp; done) | (go_simp; exact eg _ _)) ?_
  refine (move_at n b0 b1 gt _ hHeld.2.2.2.2.2.2.2.2).mono ?_
  rintro e w4 ⟨rfl, hb⟩
  refine ⟨_, rfl, ?_⟩
  have hb4 := hb
  refine hK.out _ _ (hHeld.on hb) (fun hHeld => ?_)
  clear hK K
  refine norm_ (a' := ?_) ?_ ?_
  rotate_left
  ·show Act.put _ (some 21) _ = _
   simp only [Act.put, List.setIfInBounds_toArray, List.set_cons_zero, List.set_cons_succ, i64_w, i32_w]
   rfl
  refine pure_ (i := 8) (N := some 22) (v := ?_) (a' := ?_) #[true, true, true, true, true, true, true, true, true, false, false, false] rfl rfl (by kernel_rfl) (fun _ _ _ h => h) (Or.inl ⟨by rfl, ?_⟩) ?_ ?_
  rotate_left
  ·intro w'
   go_simp
   with_reducible rfl
  rotate_left
  ·simp only [Act.put, List.setIfInBounds_toArray, List.set_cons_zero, List.set_cons_succ, i64_w, i32_w]
   rfl
  refine take_ (i := 9) (N := some 23) (v := ?_) (a' := ?_) #[true, true, true, true, true, true, true, true, true, true, false, false] rfl rfl (by kernel_rfl) (fun _ _ _ h => h) (Or.inl ⟨by rfl, ?_⟩) hHeld ?_ ?_
  rotate_left
  ·rintro w' ⟨s0, s1, s2, s3, s4, s5, s6, hm, hv⟩
   have hlk := mapis_look hm (mvA n a0 a1) (mvB n a0 a1) (mvA n b0 b1) (mvB n b0 b1) v0 v1 v2 v3
   unfold keyV at hlk
   go_simp
   with_reducible rfl
  rotate_left
  ·simp only [Act.put, List.setIfInBounds_toArray, List.set_cons_zero, List.set_cons_succ, i64_w, i32_w]
   rfl
  refine pure_ (i := 10) (N := some 24) (v := ?_) (a' := ?_) #[true, true, true, true, true, true, true, true, true, true, true, false] rfl rfl (by kernel_rfl) (fun _ _ _ h => h) (Or.inl ⟨by rfl, ?_⟩) ?_ ?_
  rotate_left
  ·intro w'
   go_simp
   with_reducible rfl
  rotate_left
  ·simp only [Act.put, List.setIfInBounds_toArray, List.set_cons_zero, List.set_cons_succ, i64_w, i32_w]
   rfl
  have HD := Aside0.mk hHeld
  have hq0 := hHeld.1
  have hq1 : w4.frozen? ⟨go, 0, none⟩ = false := blk_frozen (blk_below (blk_below (blk_drew BG.out) hb3) hb4) 0
  refine last_ (i := 11) (N := none) #[true, true, true, true, true, true, true, true, true, true, true, true] rfl rfl (by kernel_rfl) (by decide) (fun K hK => ?_)
  refine skip_ (w1 := ?_) (by rfl) rfl ?_ ?_
  rotate_left
  ·go_simp
   rfl
  refine hK.out _ _ ?_
  clear hK K
  refine done_ (by kernel_rfl) ?_
  go_end0
  exact ⟨rfl, by rw [HDO.out]; exact blk_put (cs := #[.int .u64 o]) (blk_below (blk_below (blk_drew BG.out) hb3) hb4) 0 _ rfl, grown_set (onM (onM (below_drew KE.out) hb3) hb4) _⟩
/-- An edge's number. -/
def eix (row place kind : Nat) : Nat := 3 * (row * (row + 1) / 2 + place) + kind
theorem eix_row {row n : Nat} (h : row < n) (hn : n ≤ 5) : eix row (row + 1) 0 = eix (row + 1) 0 0 := by
 have : row = 0 ∨ row = 1 ∨ row = 2 ∨ row = 3 ∨ row = 4 := by omega
 rcases this with rfl | rfl | rfl | rfl | rfl <;> rfl
theorem eix_place (row place : Nat) : eix row place 3 = eix row (place + 1) 0 := by unfold eix; omega
theorem eix_kind (row place kind : Nat) : eix row place kind + 1 = eix row place (kind + 1) := by unfold eix; omega
/-- An edge's ends, and its bit. -/
def endsAt (row place kind : Nat) : Int × Int × Int × Int := (impl_ends.f (row : Int) (place : Int) (kind : Int)).getD (0, 0, 0, 0)
theorem ends_at {row place kind : Nat} (h1 : row < 5) (h2 : place ≤ row) (h3 : kind < 3) : impl_ends.f (row : Int) (place : Int) (kind : Int) = some (endsAt row place kind) ∧ impl_side.f (row : Int) (place : Int) (kind : Int) = some (2 ^ eix row place kind) := by
 have key : ((List.range 5).all fun r => (List.range (r + 1)).all fun p => (List.range 3).all fun k => decide (impl_ends.f (r : Int) (p : Int) (k : Int) = some (endsAt r p k) ∧ impl_side.f (r : Int) (p : Int) (k : Int) = some (2 ^ eix r p k))) = true := by decide +kernel
 have h := List.all_eq_true.1 (List.all_eq_true.1 (List.all_eq_true.1 key row (List.mem_range.2 h1)) place (List.mem_range.2 (by omega))) kind (List.mem_range.2 h3)
 exact of_decide_eq_true h
theorem on_drew {w w1 : World} (hd : Drawn0 w.drew w1) : Below w.heap.size w w1 := (below_drew (Below.refl w.heap.size w)).trans (show Below w.heap.size w.drew w1 from hd.below)
theorem four_below {W W1 : World} {g : Nat} {x0 x1 x2 x3 : Value} (h : W.cell? ⟨g, 0, none⟩ = some x0 ∧ W.cell? ⟨g, 1, none⟩ = some x1 ∧ W.cell? ⟨g + 1, 0, none⟩ = some x2 ∧ W.cell? ⟨g + 1, 1, none⟩ = some x3) (hb : Below W.heap.size W W1) : W1.cell? ⟨g, 0, none⟩ = some x0 ∧ W1.cell? ⟨g, 1, none⟩ = some x1 ∧ W1.cell? ⟨g + 1, 0, none⟩ = some x2 ∧ W1.cell? ⟨g + 1, 1, none⟩ = some x3 := ⟨cell_keepM h.1 hb, cell_keepM h.2.1 hb, cell_keepM h.2.2.1 hb, cell_keepM h.2.2.2 hb⟩
theorem four_kept {W W1 : World} {g gx : Nat} {x0 x1 x2 x3 : Value} (h : W.cell? ⟨g, 0, none⟩ = some x0 ∧ W.cell? ⟨g, 1, none⟩ = some x1 ∧ W.cell? ⟨g + 1, 0, none⟩ = some x2 ∧ W.cell? ⟨g + 1, 1, none⟩ = some x3) (hk : Kept W W1 (fun k => k = gx)) (hne : gx < g) : W1.cell? ⟨g, 0, none⟩ = some x0 ∧ W1.cell? ⟨g, 1, none⟩ = some x1 ∧ W1.cell? ⟨g + 1, 0, none⟩ = some x2 ∧ W1.cell? ⟨g + 1, 1, none⟩ = some x3 := ⟨cell_kept h.1 hk (Nat.ne_of_gt hne), cell_kept h.2.1 hk (Nat.ne_of_gt hne), cell_kept h.2.2.1 hk (by show ¬ g + 1 = gx; omega), cell_kept h.2.2.2 hk (by show ¬ g + 1 = gx; omega)⟩
theorem cell_farM {w : World} {p q : Addr} {v x : Value} (h : w.cell? p = some v) (hne : p.block ≠ q.block) : (w.setCell q x).cell? p = some v := by
 have hb := Below.heap_setCell w q x p.block hne
 simpa [World.cell?, hb] using h
theorem mapis_block {w w' : World} {b n : Nat} {m : Int → Int → Int → Int → Int} (h : MapIs w b n m) (hb : w'.heap[b]? = w.heap[b]?) : MapIs w' b n m := by
 obtain ⟨D, ⟨es, clock, h1, h2⟩, hat⟩ := h
 exact ⟨D, ⟨es, clock, hb.trans h1, h2⟩, hat⟩
set_option maxHeartbeats 8000000 in
set_option maxRecDepth 100000 in
theorem each_lay (ns gt gw gs go gm gx : Nat) (Inv : Nat → World → Prop) (W : World) (hn : ns ≤ 5) (hBel : ∀ i W W', Inv i W → Below W.heap.size W W' → Inv i W') (hget : ∀ i W, Inv i W → W.cell? ⟨gt, 0, none⟩ = some (.int .i64 (ns : Int)) ∧ gx < W.heap.size)
  (hst : ∀ (row place kind : Nat) (W : World), row < ns → place ≤ row → kind < 3 → Inv (eix row place kind) W → Calls Tryd.prog 48 #[.agg #[.int .i64 (endsAt row place kind).1, .int .i64 (endsAt row place kind).2.1], .agg #[.int .i64 (endsAt row place kind).2.2.1, .int .i64 (endsAt row place kind).2.2.2], .int .u64 (2 ^ eix row place kind), .pointer (some ⟨gw, 0, none⟩)] W fun r w' => r = .returned (.tuple #[]) ∧ Inv (eix row place kind + 1) w' ∧ Kept W w' (fun k => k = gx))
  (h0 : Inv (eix 0 0 0) W) : Calls Tryd.prog 45 #[.func (.func 48) #[] #[.pointer (some ⟨gw, 0, none⟩)], .pointer (some ⟨gt, 0, none⟩)] W fun r w' => r = .returned (.tuple #[]) ∧ Inv (eix ns 0 0) w' := by
 have eg : ∀ args w, (callFunc 48 args).run Tryd.prog w = .ok (.enter 48 args) w := enters_of Tryd.func48 (by kernel_rfl) rfl
 have HBel := Aside0.mk hBel
 have HGet := Aside0.mk hget
 have HSt := Aside0.mk hst
 have H0 := Aside0.mk h0
 have HN := Aside0.mk hn
 have hg0 := (hget _ _ h0).1
 clear hBel hget hst h0
 go_enter Tryd.func45, Tryd.ntmps45
 go_wp2
 clear hg0
 go_loopw [10] (fun v wr => ∃ row : Nat, row ≤ ns ∧ v = .int .i64 (row : Int) ∧ Aside0 (Inv (eix row 0 0) wr)) (fun v _ => ns - (intOf v).toNat)
 case atStart => exact ⟨0, Nat.zero_le _, rfl, H0⟩
 case round =>
  clear H0
  obtain ⟨row, hr, rfl, HI⟩ := hrel
  by_cases hlt : row < ns
  ·have t1 : decide ((row : Int) < (ns : Int)) = true := decide_eq_true (by omega)
   have t1' : decide (row < ns) = true := decide_eq_true hlt
   have hb1 : (row : Int) ≤ 5 := by omega
   have HR := Aside0.mk hlt
   obtain ⟨wo, rfl⟩ : ∃ wo : World, wo = wr := ⟨_, rfl⟩
   clear hr hlt
   go_wp2
   go_loopw [15] (fun v wr => ∃ place : Nat, place ≤ row + 1 ∧ v = .int .i64 (place : Int) ∧ Aside0 (Inv (eix row place 0) wr)) (fun v _ => row + 1 - (intOf v).toNat)
   case atStart => exact ⟨0, Nat.zero_le _, rfl, HI⟩
   case round =>
    clear HI
    obtain ⟨place, hp, rfl, HI⟩ := hrel
    by_cases hlt : place < row + 1
    ·have t2 : decide ((place : Int) < (row : Int) + 1) = true := decide_eq_true (by omega)
     have t2' : decide (place < row + 1) = true := decide_eq_true hlt
     have hb2 : (place : Int) ≤ 5 := by omega
     have HP := Aside0.mk hlt
     obtain ⟨wp, rfl⟩ : ∃ wp : World, wp = wr := ⟨_, rfl⟩
     clear hp hlt
     go_wp2
     go_loopw [18] (fun v wr => ∃ kind : Nat, kind ≤ 3 ∧ v = .int .i64 (kind : Int) ∧ Aside0 (Inv (eix row place kind) wr)) (fun v _ => 3 - (intOf v).toNat)
     case atStart => exact ⟨0, by omega, rfl, HI⟩
     case round =>
      clear HI
      obtain ⟨kind, hk, rfl, HI⟩ := hrel
      by_cases hlt : kind < 3
      ·have t3 : decide ((kind : Int) < 3) = true := decide_eq_true (by omega)
       have t3' : decide (kind < 3) = true := decide_eq_true hlt
       have hb3 : (kind : Int) ≤ 3 := by omega
       have HK := Aside0.mk hlt
       have HE := Aside0.mk (ends_at (show row < 5 by have := HR.out; have := HN.out; omega) (show place ≤ row by have := HP.out; omega) hlt)
       have hlt' := hlt
       clear hk hlt
       have HST := Aside0.mk (fun W => HSt.out row place kind W HR.out (show place ≤ row by have := HP.out; omega) hlt')
       obtain ⟨⟨a0, a1, b0, b1⟩, hE⟩ : ∃ E, E = endsAt row place kind := ⟨_, rfl⟩
       rw [← hE] at HE HST
       clear hE hlt'
       go_upto_region 10 with (go_at_call 46; with_reducible refine (impl_ends.calls _ _ _ a0 a1 b0 b1 _ HE.out.1).mono ?_; rintro e w3 ⟨rfl, hb⟩)
       have hE := blk_alloc (blk_new w3 (.cells #[.int .i64 a0, .int .i64 a1] 48)) (.cells #[.int .i64 b0, .int .i64 b1] 48)
       have hF := blk_new (w3.alloc (.cells #[.int .i64 a0, .int .i64 a1] 48)) (.cells #[.int .i64 b0, .int .i64 b1] 48)
       rw [show (w3.alloc (.cells #[.int .i64 a0, .int .i64 a1] 48)).heap.size = w3.heap.size + 1 by simp] at hF
       have hb0 := below_alloc (below_alloc hb (.cells #[.int .i64 a0, .int .i64 a1] 48)) (.cells #[.int .i64 b0, .int .i64 b1] 48)
       have HGX := Aside0.mk (Nat.lt_of_lt_of_le (HGet.out _ _ HI.out).2 hb.size)
       generalize (w3.alloc (.cells #[.int .i64 a0, .int .i64 a1] 48)).alloc (.cells #[.int .i64 b0, .int .i64 b1] 48) = W9 at hE hF hb0 ⊢
       generalize w3.heap.size = g6 at hE hF HGX ⊢
       have HI9 := Aside0.mk (HBel.out _ _ _ HI.out hb0)
       have K9 : W9.drew.cell? ⟨g6, 0, none⟩ = some (.int .i64 a0) ∧ W9.drew.cell? ⟨g6, 1, none⟩ = some (.int .i64 a1) ∧ W9.drew.cell? ⟨g6 + 1, 0, none⟩ = some (.int .i64 b0) ∧ W9.drew.cell? ⟨g6 + 1, 1, none⟩ = some (.int .i64 b1) := ⟨blk_cell hE 0, blk_cell hE 1, blk_cell hF 0, blk_cell hF 1⟩
       clear hE hF hb hb0 HI
       go_region_held3 (fun w' => w'.cell? ⟨g6, 0, none⟩ = some (.int .i64 a0) ∧ w'.cell? ⟨g6, 1, none⟩ = some (.int .i64 a1) ∧ w'.cell? ⟨g6 + 1, 0, none⟩ = some (.int .i64 b0) ∧ w'.cell? ⟨g6 + 1, 1, none⟩ = some (.int .i64 b1))
        (first | exact K9 | exact four_kept (four_below K9 hd5.below) hk6 HGX.out | exact four_below K9 hd5.below)
        (first
         | (go_at_call 47; with_reducible refine (impl_side.calls _ _ _ (2 ^ eix row place kind) _ HE.out.2).mono ?_; rintro e w5 ⟨rfl, hd5⟩; have HI5 := Aside0.mk (HBel.out _ _ _ HI9.out (on_drew hd5)))
         | (go_at_fn 48; refine (HST.out _ HI5.out).mono ?_; rintro e w6 ⟨rfl, hi6, hk6⟩; have HI6 := Aside0.mk hi6))
       all_goals
        clear K9
        go_wp2
        exact ⟨⟨kind + 1, by have := HK.out; omega, by go_num, ⟨by rw [← eix_kind]; exact HI6.out⟩⟩, by have := HK.out; simp [intOf]; omega⟩
      ·obtain rfl : kind = 3 := by omega
       have t3 : decide (((3 : Nat) : Int) < 3) = false := by decide
       have t3' : decide (3 < 3) = false := by decide
       clear hk hlt
       go_wp2
       exact ⟨⟨place + 1, by have := HP.out; omega, by go_num, ⟨by rw [← eix_place]; exact HI.out⟩⟩, by have := HP.out; simp [intOf]; omega⟩
    ·obtain rfl : place = row + 1 := by omega
     have t2 : decide (((row + 1 : Nat) : Int) < (row : Int) + 1) = false := decide_eq_false (by omega)
     have t2' : decide (row + 1 < row + 1) = false := decide_eq_false (by omega)
     clear hp hlt
     go_wp2
     exact ⟨⟨row + 1, by have := HR.out; omega, by go_num, ⟨by rw [← eix_row HR.out HN.out]; exact HI.out⟩⟩, by have := HR.out; simp [intOf]; omega⟩
  ·obtain rfl : row = ns := by omega
   have t1 : decide ((row : Int) < (row : Int)) = false := decide_eq_false (by omega)
   have t1' : decide (row < row) = false := decide_eq_false (by omega)
   clear hr hlt
   go_wp2
   go_end0
   exact ⟨rfl, HI.out⟩
set_option maxHeartbeats 8000000 in
set_option maxRecDepth 100000 in
theorem each_draw (ns gt gw gs go gm gx : Nat) (Inv : Nat → World → Prop) (W : World) (hn : ns ≤ 5) (hBel : ∀ i W W', Inv i W → Below W.heap.size W W' → Inv i W') (hget : ∀ i W, Inv i W → W.cell? ⟨gt, 0, none⟩ = some (.int .i64 (ns : Int)) ∧ gx < W.heap.size)
  (hst : ∀ (row place kind : Nat) (W : World), row < ns → place ≤ row → kind < 3 → Inv (eix row place kind) W → Calls Tryd.prog 49 #[.agg #[.int .i64 (endsAt row place kind).1, .int .i64 (endsAt row place kind).2.1], .agg #[.int .i64 (endsAt row place kind).2.2.1, .int .i64 (endsAt row place kind).2.2.2], .int .u64 (2 ^ eix row place kind), .pointer (some ⟨gs, 0, none⟩), .pointer (some ⟨go, 0, none⟩), .pointer (some ⟨gw, 0, none⟩), .pointer (some ⟨gm, 0, none⟩)] W fun r w' => r = .returned (.tuple #[]) ∧ Inv (eix row place kind + 1) w' ∧ Kept W w' (fun k => k = gx))
  (h0 : Inv (eix 0 0 0) W) : Calls Tryd.prog 45 #[.func (.func 49) #[] #[.pointer (some ⟨gs, 0, none⟩), .pointer (some ⟨go, 0, none⟩), .pointer (some ⟨gw, 0, none⟩), .pointer (some ⟨gm, 0, none⟩)], .pointer (some ⟨gt, 0, none⟩)] W fun r w' => r = .returned (.tuple #[]) ∧ Inv (eix ns 0 0) w' := by
 have eg : ∀ args w, (callFunc 49 args).run Tryd.prog w = .ok (.enter 49 args) w := enters_of Tryd.func49 (by kernel_rfl) rfl
 have HBel := Aside0.mk hBel
 have HGet := Aside0.mk hget
 have HSt := Aside0.mk hst
 have H0 := Aside0.mk h0
 have HN := Aside0.mk hn
 have hg0 := (hget _ _ h0).1
 clear hBel hget hst h0
 go_enter Tryd.func45, Tryd.ntmps45
 go_wp2
 clear hg0
 go_loopw [10] (fun v wr => ∃ row : Nat, row ≤ ns ∧ v = .int .i64 (row : Int) ∧ Aside0 (Inv (eix row 0 0) wr)) (fun v _ => ns - (intOf v).toNat)
 case atStart => exact ⟨0, Nat.zero_le _, rfl, H0⟩
 case round =>
  clear H0
  obtain ⟨row, hr, rfl, HI⟩ := hrel
  by_cases hlt : row < ns
  ·have t1 : decide ((row : Int) < (ns : Int)) = true := decide_eq_true (by omega)
   have t1' : decide (row < ns) = true := decide_eq_true hlt
   have hb1 : (row : Int) ≤ 5 := by omega
   have HR := Aside0.mk hlt
   obtain ⟨wo, rfl⟩ : ∃ wo : World, wo = wr := ⟨_, rfl⟩
   clear hr hlt
   go_wp2
   go_loopw [15] (fun v wr => ∃ place : Nat, place ≤ row + 1 ∧ v = .int .i64 (place : Int) ∧ Aside0 (Inv (eix row place 0) wr)) (fun v _ => row + 1 - (intOf v).toNat)
   case atStart => exact ⟨0, Nat.zero_le _, rfl, HI⟩
   case round =>
    clear HI
    obtain ⟨place, hp, rfl, HI⟩ := hrel
    by_cases hlt : place < row + 1
    ·have t2 : decide ((place : Int) < (row : Int) + 1) = true := decide_eq_true (by omega)
     have t2' : decide (place < row + 1) = true := decide_eq_true hlt
     have hb2 : (place : Int) ≤ 5 := by omega
     have HP := Aside0.mk hlt
     obtain ⟨wp, rfl⟩ : ∃ wp : World, wp = wr := ⟨_, rfl⟩
     clear hp hlt
     go_wp2
     go_loopw [18] (fun v wr => ∃ kind : Nat, kind ≤ 3 ∧ v = .int .i64 (kind : Int) ∧ Aside0 (Inv (eix row place kind) wr)) (fun v _ => 3 - (intOf v).toNat)
     case atStart => exact ⟨0, by omega, rfl, HI⟩
     case round =>
      clear HI
      obtain ⟨kind, hk, rfl, HI⟩ := hrel
      by_cases hlt : kind < 3
      ·have t3 : decide ((kind : Int) < 3) = true := decide_eq_true (by omega)
       have t3' : decide (kind < 3) = true := decide_eq_true hlt
       have hb3 : (kind : Int) ≤ 3 := by omega
       have HK := Aside0.mk hlt
       have HE := Aside0.mk (ends_at (show row < 5 by have := HR.out; have := HN.out; omega) (show place ≤ row by have := HP.out; omega) hlt)
       have hlt' := hlt
       clear hk hlt
       have HST := Aside0.mk (fun W => HSt.out row place kind W HR.out (show place ≤ row by have := HP.out; omega) hlt')
       obtain ⟨⟨a0, a1, b0, b1⟩, hE⟩ : ∃ E, E = endsAt row place kind := ⟨_, rfl⟩
       rw [← hE] at HE HST
       clear hE hlt'
       go_upto_region 10 with (go_at_call 46; with_reducible refine (impl_ends.calls _ _ _ a0 a1 b0 b1 _ HE.out.1).mono ?_; rintro e w3 ⟨rfl, hb⟩)
       have hE := blk_alloc (blk_new w3 (.cells #[.int .i64 a0, .int .i64 a1] 48)) (.cells #[.int .i64 b0, .int .i64 b1] 48)
       have hF := blk_new (w3.alloc (.cells #[.int .i64 a0, .int .i64 a1] 48)) (.cells #[.int .i64 b0, .int .i64 b1] 48)
       rw [show (w3.alloc (.cells #[.int .i64 a0, .int .i64 a1] 48)).heap.size = w3.heap.size + 1 by simp] at hF
       have hb0 := below_alloc (below_alloc hb (.cells #[.int .i64 a0, .int .i64 a1] 48)) (.cells #[.int .i64 b0, .int .i64 b1] 48)
       have HGX := Aside0.mk (Nat.lt_of_lt_of_le (HGet.out _ _ HI.out).2 hb.size)
       generalize (w3.alloc (.cells #[.int .i64 a0, .int .i64 a1] 48)).alloc (.cells #[.int .i64 b0, .int .i64 b1] 48) = W9 at hE hF hb0 ⊢
       generalize w3.heap.size = g6 at hE hF HGX ⊢
       have HI9 := Aside0.mk (HBel.out _ _ _ HI.out hb0)
       have K9 : W9.drew.cell? ⟨g6, 0, none⟩ = some (.int .i64 a0) ∧ W9.drew.cell? ⟨g6, 1, none⟩ = some (.int .i64 a1) ∧ W9.drew.cell? ⟨g6 + 1, 0, none⟩ = some (.int .i64 b0) ∧ W9.drew.cell? ⟨g6 + 1, 1, none⟩ = some (.int .i64 b1) := ⟨blk_cell hE 0, blk_cell hE 1, blk_cell hF 0, blk_cell hF 1⟩
       clear hE hF hb hb0 HI
       go_region_held3 (fun w' => w'.cell? ⟨g6, 0, none⟩ = some (.int .i64 a0) ∧ w'.cell? ⟨g6, 1, none⟩ = some (.int .i64 a1) ∧ w'.cell? ⟨g6 + 1, 0, none⟩ = some (.int .i64 b0) ∧ w'.cell? ⟨g6 + 1, 1, none⟩ = some (.int .i64 b1))
        (first | exact K9 | exact four_kept (four_below K9 hd5.below) hk6 HGX.out | exact four_below K9 hd5.below)
        (first
         | (go_at_call 47; with_reducible refine (impl_side.calls _ _ _ (2 ^ eix row place kind) _ HE.out.2).mono ?_; rintro e w5 ⟨rfl, hd5⟩; have HI5 := Aside0.mk (HBel.out _ _ _ HI9.out (on_drew hd5)))
         | (go_at_fn 49; refine (HST.out _ HI5.out).mono ?_; rintro e w6 ⟨rfl, hi6, hk6⟩; have HI6 := Aside0.mk hi6))
       all_goals
        clear K9
        go_wp2
        exact ⟨⟨kind + 1, by have := HK.out; omega, by go_num, ⟨by rw [← eix_kind]; exact HI6.out⟩⟩, by have := HK.out; simp [intOf]; omega⟩
      ·obtain rfl : kind = 3 := by omega
       have t3 : decide (((3 : Nat) : Int) < 3) = false := by decide
       have t3' : decide (3 < 3) = false := by decide
       clear hk hlt
       go_wp2
       exact ⟨⟨place + 1, by have := HP.out; omega, by go_num, ⟨by rw [← eix_place]; exact HI.out⟩⟩, by have := HP.out; simp [intOf]; omega⟩
    ·obtain rfl : place = row + 1 := by omega
     have t2 : decide (((row + 1 : Nat) : Int) < (row : Int) + 1) = false := decide_eq_false (by omega)
     have t2' : decide (row + 1 < row + 1) = false := decide_eq_false (by omega)
     clear hp hlt
     go_wp2
     exact ⟨⟨row + 1, by have := HR.out; omega, by go_num, ⟨by rw [← eix_row HR.out HN.out]; exact HI.out⟩⟩, by have := HR.out; simp [intOf]; omega⟩
  ·obtain rfl : row = ns := by omega
   have t1 : decide ((row : Int) < (row : Int)) = false := decide_eq_false (by omega)
   have t1' : decide (row < row) = false := decide_eq_false (by omega)
   clear hr hlt
   go_wp2
   go_end0
   exact ⟨rfl, HI.out⟩

/-! ### impl_turnedTri_moved: what the two passes come to -/
def edL : List (Int × Int × Int × Int) := (List.range 5).flatMap fun r => (List.range (r + 1)).flatMap fun p => (List.range 3).map fun k => endsAt r p k
def ed (i : Nat) : Int × Int × Int × Int := edL.getD i (0, 0, 0, 0)
theorem ed_at {row place kind : Nat} (h1 : row < 5) (h2 : place ≤ row) (h3 : kind < 3) : ed (eix row place kind) = endsAt row place kind ∧ eix row place kind < 45 := by
 have key : ((List.range 5).all fun r => (List.range (r + 1)).all fun p => (List.range 3).all fun k => decide (ed (eix r p k) = endsAt r p k ∧ eix r p k < 45)) = true := by decide +kernel
 have h := List.all_eq_true.1 (List.all_eq_true.1 (List.all_eq_true.1 key row (List.mem_range.2 h1)) place (List.mem_range.2 (by omega))) kind (List.mem_range.2 h3)
 exact of_decide_eq_true h
/-- The table of all edges after i of them. -/
def whereU : Nat → Int → Int → Int → Int → Int
 | 0 => fun _ _ _ _ => 0
 | i + 1 => mput (mput (whereU i) (ed i).1 (ed i).2.1 (ed i).2.2.1 (ed i).2.2.2 (2 ^ i)) (ed i).2.2.1 (ed i).2.2.2 (ed i).1 (ed i).2.1 (2 ^ i)
/-- The figure drawn anew, after i edges. -/
def outU (n : Int) (N : Nat) (s : Int) : Nat → Int
 | 0 => 0
 | i + 1 => dOut s (2 ^ i) (outU n N s i) (whereU N (mvA n (ed i).1 (ed i).2.1) (mvB n (ed i).1 (ed i).2.1) (mvA n (ed i).2.2.1 (ed i).2.2.2) (mvB n (ed i).2.2.1 (ed i).2.2.2))
def edWf (i : Nat) : Bool := (Lit.int .i64 (ed i).1).wf && (Lit.int .i64 (ed i).2.1).wf && (Lit.int .i64 (ed i).2.2.1).wf && (Lit.int .i64 (ed i).2.2.2).wf && (Lit.int .u64 (2 ^ i)).wf
theorem ed_wf {i : Nat} (h : i < 45) : ((Lit.int .i64 (ed i).1).wf = true ∧ (Lit.int .i64 (ed i).2.1).wf = true) ∧ ((Lit.int .i64 (ed i).2.2.1).wf = true ∧ (Lit.int .i64 (ed i).2.2.2).wf = true) ∧ (Lit.int .u64 (2 ^ i)).wf = true := by
 have key : ((List.range 45).all fun i => edWf i) = true := by decide +kernel
 have h := List.all_eq_true.1 key i (List.mem_range.2 h)
 unfold edWf at h
 simp only [Bool.and_eq_true] at h
 exact ⟨⟨h.1.1.1.1, h.1.1.1.2⟩, ⟨h.1.1.2, h.1.2⟩, h.2⟩
def mvWf (n i : Nat) : Bool := (Lit.int .i64 (mvA (n : Int) (ed i).1 (ed i).2.1)).wf && (Lit.int .i64 (mvB (n : Int) (ed i).1 (ed i).2.1)).wf && (Lit.int .i64 (mvA (n : Int) (ed i).2.2.1 (ed i).2.2.2)).wf && (Lit.int .i64 (mvB (n : Int) (ed i).2.2.1 (ed i).2.2.2)).wf
theorem mv_wf {n i : Nat} (h : i < 45) (hn : n ≤ 5) : ((Lit.int .i64 (mvA (n : Int) (ed i).1 (ed i).2.1)).wf = true ∧ (Lit.int .i64 (mvB (n : Int) (ed i).1 (ed i).2.1)).wf = true) ∧ (Lit.int .i64 (mvA (n : Int) (ed i).2.2.1 (ed i).2.2.2)).wf = true ∧ (Lit.int .i64 (mvB (n : Int) (ed i).2.2.1 (ed i).2.2.2)).wf = true := by
 have key : ((List.range 6).all fun n => (List.range 45).all fun i => mvWf n i) = true := by decide +kernel
 have h := List.all_eq_true.1 (List.all_eq_true.1 key n (List.mem_range.2 (by omega))) i (List.mem_range.2 h)
 unfold mvWf at h
 simp only [Bool.and_eq_true] at h
 exact ⟨⟨h.1.1.1, h.1.1.2⟩, h.1.2, h.2⟩
set_option maxHeartbeats 8000000 in
set_option maxRecDepth 100000 in
theorem moved_at (k ns : Nat) (s : Int) (L l0 : List Int) (A0 : Option Addr) (c0 gt : Nat) (W : World) (hn : 1 ≤ ns ∧ ns ≤ 5) (hv : MvOk (ns : Int) gt W) (hgt : gt < W.heap.size) (hr0 : Kd.C (Kd.int .i64) W A0 l0.length l0) (hc0 : l0.length ≤ c0) (hG : LaidG W) (hs : impl_Tri_set.f k (ns : Int) l0 = some s) (hL : impl_set_listed.f k (outU (ns : Int) (eix ns 0 0) s (eix ns 0 0)) = some L) :
  Calls Tryd.prog 38 #[.agg #[.int .i64 (ns : Int), .slice A0 l0.length c0], .func (.func 40) #[] #[.pointer (some ⟨gt, 0, none⟩)]] W fun e w' => ∃ v1 : Value, e = .returned (.agg #[.int .i64 (ns : Int), v1]) ∧ Kd.R (Kd.int .i64) 3 w' W.heap.size (fun _ => True) v1 L ∧ Below W.heap.size W w' := by
 have HR0 := Aside0.mk hr0
 have HC0 := Aside0.mk hc0
 have HG := Aside0.mk hG
 have HS := Aside0.mk hs
 have HL := Aside0.mk hL
 have HV := Aside0.mk hv
 have HN := Aside0.mk hn
 have HGT := Aside0.mk hgt
 clear hr0 hc0 hG hs hL hv hn hgt
 have hmm := @run_makeMap Tryd.prog
 have eg1 : ∀ args w, (callFunc 45 args).run Tryd.prog w = .ok (.enter 45 args) w := enters_of Tryd.func45 (by kernel_rfl) rfl
 go_enter Tryd.func38, Tryd.ntmps38
 go_upto_region 1 with (fail)
 have hb0 := below_alloc (below_alloc (below_alloc (Below.refl W.heap.size W) (.cells #[.int .i64 (ns : Int), .slice A0 l0.length c0] 26)) (.cells #[.func (.func 40) #[] #[.pointer (some ⟨gt, 0, none⟩)]] 49)) (.cells #[.int .i64 0, .slice none 0 0] 26)
 have BT := Aside0.mk (blk_alloc (blk_alloc (blk_new W (.cells #[.int .i64 (ns : Int), .slice A0 l0.length c0] 26)) (.cells #[.func (.func 40) #[] #[.pointer (some ⟨gt, 0, none⟩)]] 49)) (.cells #[.int .i64 0, .slice none 0 0] 26))
 have hM := blk_alloc (blk_new (W.alloc (.cells #[.int .i64 (ns : Int), .slice A0 l0.length c0] 26)) (.cells #[.func (.func 40) #[] #[.pointer (some ⟨gt, 0, none⟩)]] 49)) (.cells #[.int .i64 0, .slice none 0 0] 26)
 have hR := blk_new ((W.alloc (.cells #[.int .i64 (ns : Int), .slice A0 l0.length c0] 26)).alloc (.cells #[.func (.func 40) #[] #[.pointer (some ⟨gt, 0, none⟩)]] 49)) (.cells #[.int .i64 0, .slice none 0 0] 26)
 rw [show (W.alloc (.cells #[.int .i64 (ns : Int), .slice A0 l0.length c0] 26)).heap.size = W.heap.size + 1 by simp] at hM
 rw [show ((W.alloc (.cells #[.int .i64 (ns : Int), .slice A0 l0.length c0] 26)).alloc (.cells #[.func (.func 40) #[] #[.pointer (some ⟨gt, 0, none⟩)]] 49)).heap.size = W.heap.size + 1 + 1 by simp] at hR
 generalize ((W.alloc (.cells #[.int .i64 (ns : Int), .slice A0 l0.length c0] 26)).alloc (.cells #[.func (.func 40) #[] #[.pointer (some ⟨gt, 0, none⟩)]] 49)).alloc (.cells #[.int .i64 0, .slice none 0 0] 26) = W0 at hb0 BT hM hR ⊢
 have BM := Aside0.mk hM
 have BR := Aside0.mk hR
 have HB := Aside0.mk hb0
 clear hM hR hb0
 have hz0 := blk_cell (blk_alloc BT.out (.map #[] 0)) 0
 have hz1 := blk_cell (blk_alloc BT.out (.map #[] 0)) 1
 go_upto_region 2 with (go_at_call 44; with_reducible refine (impl_Tri_set.calls k (ns : Int) _ _ l0 s _ (Kd.C_below HR0.out (below_alloc HB.out _)) HC0.out HS.out).mono ?_; rintro e w1 ⟨rfl, hb1⟩)
 have hb2 := below_alloc (below_alloc (below_alloc hb1 (.cells #[.map (some W0.heap.size)] 51)) (.cells #[.int .u64 s] 53)) (.cells #[.int .u64 0] 53)
 have hw := blk_alloc (blk_alloc (blk_new w1 (.cells #[.map (some W0.heap.size)] 51)) (.cells #[.int .u64 s] 53)) (.cells #[.int .u64 0] 53)
 have hs := blk_alloc (blk_new (w1.alloc (.cells #[.map (some W0.heap.size)] 51)) (.cells #[.int .u64 s] 53)) (.cells #[.int .u64 0] 53)
 have ho := blk_new ((w1.alloc (.cells #[.map (some W0.heap.size)] 51)).alloc (.cells #[.int .u64 s] 53)) (.cells #[.int .u64 0] 53)
 rw [show (w1.alloc (.cells #[.map (some W0.heap.size)] 51)).heap.size = w1.heap.size + 1 by simp] at hs
 rw [show ((w1.alloc (.cells #[.map (some W0.heap.size)] 51)).alloc (.cells #[.int .u64 s] 53)).heap.size = w1.heap.size + 1 + 1 by simp] at ho
 have hm2 := mapis_below (mapis_made W0) hb2
 have L1 := Aside0.mk (show W.heap.size + 1 + 1 < W0.heap.size from blk_lt BR.out)
 have L2 := Aside0.mk (show W0.heap.size < w1.heap.size by have := hb1.size; simp at this; omega)
 generalize ((w1.alloc (.cells #[.map (some W0.heap.size)] 51)).alloc (.cells #[.int .u64 s] 53)).alloc (.cells #[.int .u64 0] 53) = W2 at hb2 hw hs ho hm2 ⊢
 have hb3 : Below W0.heap.size W0 W2 := (below_alloc (Below.refl W0.heap.size W0) (.map #[] 0)).trans (hb2.mono (by simp))
 have BT2 := Aside0.mk (blk_below BT.out hb3)
 have BM2 := Aside0.mk (blk_below BM.out hb3)
 have BR2 := Aside0.mk (blk_below BR.out hb3)
 have BW2 := Aside0.mk hw
 have BS2 := Aside0.mk hs
 have BO2 := Aside0.mk ho
 have MI2 := Aside0.mk hm2
 have HB2 := Aside0.mk (HB.out.trans (hb3.mono HB.out.size))
 clear hw hs ho hm2 hb1 hb2 hb3 hz0 hz1 BT BM BR HB
 generalize W0.heap.size = gb at L1 L2 BW2 MI2 ⊢
 generalize w1.heap.size = g5 at L2 BW2 BS2 BO2 ⊢
 go_upto_region 3 with (fail)
 have HC := Aside0.mk (each_lay ns W.heap.size g5 0 0 0 gb (fun i W' => MapIs W' gb (2 * i) (whereU i) ∧ Kept W2 W' (fun k => k = gb) ∧ Below W.heap.size W W') W2 HN.out.2 (fun i W3 W4 h hb => ⟨mapis_below h.1 hb, h.2.1.below hb, onM h.2.2 hb⟩) (fun i W3 h => ⟨cell_kept (blk_cell BT2.out 0) h.2.1 (by show ¬ W.heap.size = gb; have := L1.out; omega), Nat.lt_of_lt_of_le (by have := blk_lt BW2.out; have := L2.out; omega) h.2.1.1⟩)
  (fun row place kind W3 h1 h2 h3 h => by
   have he := ed_at (show row < 5 by have := HN.out; omega) h2 h3
   have hw := ed_wf he.2
   rw [he.1] at hw
   refine (lay_both _ _ _ _ _ g5 gb _ _ W3 (cell_kept (blk_cell BW2.out 0) h.2.1 (by show ¬ g5 = gb; have := L2.out; omega)) h.1 (by unfold maxLen; have := he.2; omega) hw.1.1 hw.1.2 hw.2.1.1 hw.2.1.2 hw.2.2).mono fun r w' hq => ?_
   obtain ⟨hr, hm, hg⟩ := hq
   refine ⟨hr, ⟨?_, Kept.of_grown hg h.2.1 (fun k hk => .inl (Option.some.inj hk).symm), below_grown2 h.2.2 hg (by have := L1.out; omega)⟩, Kept.of_grown hg (Kept.refl _ _) (fun k hk => .inl (Option.some.inj hk).symm)⟩
   have e : whereU (eix row place kind + 1) = mput (mput (whereU (eix row place kind)) (endsAt row place kind).1 (endsAt row place kind).2.1 (endsAt row place kind).2.2.1 (endsAt row place kind).2.2.2 (2 ^ eix row place kind)) (endsAt row place kind).2.2.1 (endsAt row place kind).2.2.2 (endsAt row place kind).1 (endsAt row place kind).2.1 (2 ^ eix row place kind) := by rw [← he.1]; rfl
   rw [e, show 2 * (eix row place kind + 1) = 2 * eix row place kind + 2 by omega]
   exact hm)
  ⟨MI2.out, Kept.refl _ _, HB2.out⟩)
 go_upto_region 4 with (go_at_fn 45; refine HC.out.mono ?_; rintro e w3 ⟨rfl, hm3, hk3, hb3⟩)
 clear HC
 have BT3 := Aside0.mk (blk_kept BT2.out hk3 (by show ¬ W.heap.size = gb; have := L1.out; omega))
 have BM3 := Aside0.mk (blk_kept BM2.out hk3 (by show ¬ W.heap.size + 1 = gb; have := L1.out; omega))
 have BR3 := Aside0.mk (blk_kept BR2.out hk3 (by show ¬ W.heap.size + 1 + 1 = gb; have := L1.out; omega))
 have BW3 := Aside0.mk (blk_kept BW2.out hk3 (by show ¬ g5 = gb; have := L2.out; omega))
 have BS3 := Aside0.mk (blk_kept BS2.out hk3 (by show ¬ g5 + 1 = gb; have := L2.out; omega))
 have BO3 := Aside0.mk (blk_kept BO2.out hk3 (by show ¬ g5 + 1 + 1 = gb; have := L2.out; omega))
 have MI3 := Aside0.mk hm3
 have HB3 := Aside0.mk hb3
 clear hm3 hk3 hb3 BT2 BM2 BR2 BW2 BS2 BO2 MI2 HB2
 -- the second pass
 have HC := Aside0.mk (each_draw ns W.heap.size g5 (g5 + 1) (g5 + 1 + 1) (W.heap.size + 1) (g5 + 1 + 1) (fun i W' => W'.heap[g5 + 1 + 1]? = some (.cells #[.int .u64 (outU (ns : Int) (eix ns 0 0) s i)] 53 (0, 0)) ∧ Kept w3 W' (fun k => k = g5 + 1 + 1) ∧ Below W.heap.size W W') w3 HN.out.2 (fun i W3 W4 h hb => ⟨blk_below h.1 hb, h.2.1.below hb, onM h.2.2 hb⟩) (fun i W3 h => ⟨cell_kept (blk_cell BT3.out 0) h.2.1 (by show ¬ W.heap.size = g5 + 1 + 1; have := L1.out; have := L2.out; omega), blk_lt h.1⟩)
  (fun row place kind W3 h1 h2 h3 h => by
   have he := ed_at (show row < 5 by have := HN.out; omega) h2 h3
   have hw := mv_wf he.2 HN.out.2
   rw [he.1] at hw
   refine (draw_one (ns : Int) _ _ _ _ _ s _ (g5 + 1) (g5 + 1 + 1) g5 (W.heap.size + 1) gt gb _ _ W3 (cell_kept (blk_cell BS3.out 0) h.2.1 (by show ¬ g5 + 1 = g5 + 1 + 1; omega)) h.1 (cell_kept (blk_cell BW3.out 0) h.2.1 (by show ¬ g5 = g5 + 1 + 1; omega)) (cell_kept (blk_cell BM3.out 0) h.2.1 (by show ¬ W.heap.size + 1 = g5 + 1 + 1; have := L1.out; have := L2.out; omega))
    (mapis_block MI3.out (h.2.1.2 gb (by have := blk_lt BW3.out; have := L2.out; omega) (by have := L2.out; omega))) (HV.out.below h.2.2) hw.1.1 hw.1.2 hw.2.1 hw.2.2).mono fun r w' hq => ?_
   obtain ⟨hr, hm, hg⟩ := hq
   refine ⟨hr, ⟨?_, Kept.of_grown hg h.2.1 (fun k hk => .inl (Option.some.inj hk).symm), below_grown2 h.2.2 hg (by have := L1.out; have := L2.out; omega)⟩, Kept.of_grown hg (Kept.refl _ _) (fun k hk => .inl (Option.some.inj hk).symm)⟩
   have e : outU (ns : Int) (eix ns 0 0) s (eix row place kind + 1) = dOut s (2 ^ eix row place kind) (outU (ns : Int) (eix ns 0 0) s (eix row place kind)) (whereU (eix ns 0 0) (mvA (ns : Int) (endsAt row place kind).1 (endsAt row place kind).2.1) (mvB (ns : Int) (endsAt row place kind).1 (endsAt row place kind).2.1) (mvA (ns : Int) (endsAt row place kind).2.2.1 (endsAt row place kind).2.2.2) (mvB (ns : Int) (endsAt row place kind).2.2.1 (endsAt row place kind).2.2.2)) := by rw [← he.1]; rfl
   rw [e]
   exact hm)
  ⟨BO3.out, Kept.refl _ _, HB3.out⟩)
 go_upto_region 5 with (go_at_fn 45; refine HC.out.mono ?_; rintro e w4 ⟨rfl, ho4, hk4, hb4⟩)
 clear HC
 have BT4 := Aside0.mk (blk_kept BT3.out hk4 (by show ¬ W.heap.size = g5 + 1 + 1; have := L1.out; have := L2.out; omega))
 have BR4 := Aside0.mk (blk_kept BR3.out hk4 (by show ¬ W.heap.size + 1 + 1 = g5 + 1 + 1; have := L1.out; have := L2.out; omega))
 have HB4 := Aside0.mk hb4
 have K4 : w4.drew.cell? ⟨W.heap.size, 0, none⟩ = some (.int .i64 (ns : Int)) ∧ w4.drew.cell? ⟨g5 + 1 + 1, 0, none⟩ = some (.int .u64 (outU (ns : Int) (eix ns 0 0) s (eix ns 0 0))) := ⟨blk_cell BT4.out 0, blk_cell ho4 0⟩
 clear ho4 hk4 hb4 BT3 BM3 BR3 BW3 BS3 BO3 MI3 HB3
 generalize outU (ns : Int) (eix ns 0 0) s (eix ns 0 0) = M at HL K4 ⊢
 go_region_held3 (fun w' => w'.cell? ⟨W.heap.size, 0, none⟩ = some (.int .i64 (ns : Int)) ∧ w'.cell? ⟨g5 + 1 + 1, 0, none⟩ = some (.int .u64 M))
  (first | exact K4 | exact ⟨cell_keepM K4.1 hb5, cell_keepM K4.2 hb5⟩ | exact ⟨cell_farM (cell_farM (cell_keepM K4.1 hb5) (by show W.heap.size ≠ W.heap.size + 1 + 1; omega)) (by show W.heap.size ≠ W.heap.size + 1 + 1; omega), cell_farM (cell_farM (cell_keepM K4.2 hb5) (by show g5 + 1 + 1 ≠ W.heap.size + 1 + 1; have := L1.out; have := L2.out; omega)) (by show g5 + 1 + 1 ≠ W.heap.size + 1 + 1; have := L1.out; have := L2.out; omega)⟩)
  ((go_at_call 50; with_reducible refine (impl_set_listed.calls k M L _ (LaidG_below HG.out (below_drew HB4.out)) HL.out).mono ?_; rintro e w5 ⟨v5, rfl, ho5, hb5⟩; obtain ⟨A5, c5, rfl⟩ := Kd.R_slice ho5; have HO5 := Aside0.mk ho5; clear ho5; have HR5 := Aside0.mk (blk_below (blk_drew BR4.out) hb5); have hq0 := blk_cell HR5.out 0; have hq1 := blk_cell HR5.out 1; have hf0 := blk_frozen HR5.out 0; have hf1 := blk_frozen HR5.out 1))
 all_goals
  have HB5 := Aside0.mk (onM (below_drew HB4.out) hb5)
  clear K4 hb5 hq0 hq1 hf0 hf1
  go_wp2
  have hF := blk_put (blk_put HR5.out 0 (.int .i64 (ns : Int)) rfl) 1 (.slice A5 L.length c5) rfl
  refine bodyPost_ret (results_cell_row rfl _ _ (W.heap.size + 1 + 1) 26 #[.int .i64 (ns : Int), .slice A5 L.length c5] (0, 0) _ rfl hF Tryd.underlying26 rfl (by kernel_rfl)) rfl ?_
  exact ⟨_, rfl, Kd.R_lower (Kd.R_set (Kd.R_set HO5.out HR5.out (by decide) 0 _) (blk_put HR5.out 0 (.int .i64 (ns : Int)) rfl) (by decide) 1 _) HB4.out.size, below_set (below_set HB5.out (by omega)) (by omega)⟩
def impl_turnedTri.f (k : Nat) (a0_0 : Int) (l0_1 : List Int) : Option (Int × List Int) :=
 if 1 ≤ a0_0 ∧ a0_0 ≤ 5 then (impl_Tri_set.f k a0_0 l0_1).bind fun s => (impl_set_listed.f k (outU a0_0 (eix a0_0.toNat 0 0) s (eix a0_0.toNat 0 0))).bind fun L => some (a0_0, L) else none
theorem impl_turnedTri.mono : ∀ a0 a1 k, LeO (impl_turnedTri.f k a0 a1) (impl_turnedTri.f (k + 1) a0 a1) := by
 intro a0 a1 k
 unfold impl_turnedTri.f
 exact LeO.ite (LeO.bind (impl_Tri_set.mono _ _ _) (fun _ => LeO.bind (impl_set_listed.mono _ _) (fun _ => LeO.refl _))) (LeO.none _)
set_option maxHeartbeats 8000000 in
set_option maxRecDepth 100000 in
theorem impl_turnedTri.calls (k : Nat) (a0_0 : Int) (A0_1 : Option Addr) (c0_1 : Nat) (l0_1 : List Int) (r1 : Int) (r2 : List Int) (w : World) (hr0_1 : Kd.C (Kd.int .i64) w A0_1 l0_1.length l0_1) (hc0_1 : l0_1.length ≤ c0_1) (hG : LaidG w) (h : impl_turnedTri.f k a0_0 l0_1 = some (r1, r2)) :
  Calls Tryd.prog 26 #[.agg #[.int .i64 a0_0, .slice A0_1 l0_1.length c0_1]] w fun e w' => ∃ v1_ : Value, e = .returned (.agg #[.int .i64 r1, v1_]) ∧ Kd.R (Kd.int .i64) 3 w' w.heap.size (fun _ => True) v1_ r2 ∧ Below w.heap.size w w' := by
 unfold impl_turnedTri.f at h
 by_cases hn : 1 ≤ a0_0 ∧ a0_0 ≤ 5
 case neg => rw [if_neg hn] at h; cases h
 rw [if_pos hn] at h
 obtain ⟨s, hs, h⟩ := Option.bind_eq_some_iff.mp h
 obtain ⟨L, hL, h⟩ := Option.bind_eq_some_iff.mp h
 obtain ⟨rfl, rfl⟩ := Prod.mk.inj (Option.some.inj h)
 obtain ⟨ns, rfl⟩ : ∃ ns : Nat, a0_0 = (ns : Int) := ⟨a0_0.toNat, by omega⟩
 rw [Int.toNat_natCast] at hL
 have HN := Aside0.mk (show 1 ≤ ns ∧ ns ≤ 5 by omega)
 have HS := Aside0.mk hs
 have HL := Aside0.mk hL
 have HR0 := Aside0.mk hr0_1
 have HC0 := Aside0.mk hc0_1
 have HG := Aside0.mk hG
 clear hn hs hL h hr0_1 hc0_1 hG
 have hmf : ∀ (fn : Fn) (first cap : Array Value) (w : World), (Instr.makeFunc fn first cap).run Tryd.prog w = .ok (.func fn first cap) w := fun _ _ _ _ => rfl
 go_enter Tryd.func26, Tryd.ntmps26
 go_upto_region 1 with (fail)
 have hb0 := below_alloc (below_alloc (Below.refl w.heap.size w) (.cells #[.int .i64 (ns : Int), .slice A0_1 l0_1.length c0_1] 26)) (.cells #[.int .i64 0, .slice none 0 0] 26)
 have BT := Aside0.mk (blk_alloc (blk_new w (.cells #[.int .i64 (ns : Int), .slice A0_1 l0_1.length c0_1] 26)) (.cells #[.int .i64 0, .slice none 0 0] 26))
 have hR := blk_new (w.alloc (.cells #[.int .i64 (ns : Int), .slice A0_1 l0_1.length c0_1] 26)) (.cells #[.int .i64 0, .slice none 0 0] 26)
 rw [show (w.alloc (.cells #[.int .i64 (ns : Int), .slice A0_1 l0_1.length c0_1] 26)).heap.size = w.heap.size + 1 by simp] at hR
 generalize (w.alloc (.cells #[.int .i64 (ns : Int), .slice A0_1 l0_1.length c0_1] 26)).alloc (.cells #[.int .i64 0, .slice none 0 0] 26) = W0 at hb0 BT hR ⊢
 have BR := Aside0.mk hR
 have HB := Aside0.mk hb0
 have hz0 := (blk_cell BT.out 0).trans rfl
 have hz1 := (blk_cell BT.out 1).trans rfl
 clear hR hb0
 go_wp2_with (go_at_call 38; refine (moved_at k ns s L l0_1 A0_1 c0_1 w.heap.size W0 HN.out (by first | exact trivial | exact blk_cell BT.out 0) (blk_lt BT.out) (Kd.C_below HR0.out HB.out) HC0.out (LaidG_below HG.out HB.out) HS.out HL.out).mono ?_; rintro e w5 ⟨v5, rfl, ho5, hb5⟩; obtain ⟨A5, c5, rfl⟩ := Kd.R_slice ho5; have HO5 := Aside0.mk ho5; have HR5 := Aside0.mk (blk_below BR.out hb5); have HB5 := Aside0.mk (onM HB.out hb5); clear ho5 hb5 hz0 hz1; have hq0 := blk_cell HR5.out 0; have hq1 := blk_cell HR5.out 1; have hf0 := blk_frozen HR5.out 0; have hf1 := blk_frozen HR5.out 1)
 have hF := blk_put (blk_put HR5.out 0 (.int .i64 (ns : Int)) rfl) 1 (.slice A5 L.length c5) rfl
 refine bodyPost_ret (results_cell_row rfl _ _ (w.heap.size + 1) 26 #[.int .i64 (ns : Int), .slice A5 L.length c5] (0, 0) _ rfl hF Tryd.underlying26 rfl (by kernel_rfl)) rfl ?_
 exact ⟨_, rfl, Kd.R_lower (Kd.R_set (Kd.R_set HO5.out HR5.out (by decide) 0 _) (blk_put HR5.out 0 (.int .i64 (ns : Int)) rfl) (by decide) 1 _) HB.out.size, below_set (below_set HB5.out (by omega)) (by omega)⟩

/-! ### impl_TurnTri: function 14 -/
def impl_TurnTri.f (k : Nat) (a0_0 : Int) (l0_1 : List Int) : Option (Int × List Int × Bool) := (impl_IsTri.f k a0_0 l0_1).bind fun t192 => (if t192 = true then ((impl_turnedTri.f k a0_0 l0_1).bind fun bt193 => (some (bt193.1, bt193.2, true))) else (some (0, ([] : List Int), false)))
theorem impl_TurnTri.mono : ∀ a0 a1 k, LeO (impl_TurnTri.f k a0 a1) (impl_TurnTri.f (k + 1) a0 a1) := by
 intro a0 a1 k
 unfold impl_TurnTri.f
 repeat' first
   | (with_reducible exact impl_IsTri.mono _ _ _)
   | (with_reducible exact impl_turnedTri.mono _ _ _)
   | (with_reducible exact LeO.refl _)
   | (with_reducible exact LeO.none _)
   | (with_reducible refine LeO.ite ?_ ?_)
   | (with_reducible refine LeO.bind ?_ (fun _ => ?_))
   | exact impl_IsTri.mono _ _ _
   | exact impl_turnedTri.mono _ _ _
   | exact LeO.none _
   | refine LeO.ite ?_ ?_
   | refine LeO.bind ?_ (fun _ => ?_)
set_option maxHeartbeats 8000000 in
set_option maxRecDepth 100000 in
theorem impl_TurnTri.calls (k : Nat) (a0_0 : Int) (A0_1 : Option Addr) (c0_1 : Nat) (l0_1 : List Int) (r1 : Int) (r2 : List Int) (r3 : Bool) (w : World) (hr0_1 : Kd.C (Kd.int .i64) w A0_1 l0_1.length l0_1) (hc0_1 : l0_1.length ≤ c0_1) (hG : LaidG w) (h : impl_TurnTri.f k a0_0 l0_1 = some (r1, r2, r3)) :
  Calls Tryd.prog 14 #[.agg #[.int .i64 a0_0, .slice A0_1 l0_1.length c0_1]] w fun e w' => ∃ v1_ : Value, e = .returned (.tuple #[.agg #[.int .i64 r1, v1_], .bool r3]) ∧ Kd.R (Kd.int .i64) 3 w' w.heap.size (fun _ => True) v1_ r2 ∧ Below w.heap.size w w' := by
 have hu26 := Tryd.underlying26
 have HR0_1 := Aside0.mk hr0_1
 have HC0_1 := Aside0.mk hc0_1
 clear hr0_1 hc0_1
 have HG := Aside0.mk hG
 clear hG
 have HB := Aside0.mk (Below.refl w.heap.size w)
 have H : ((impl_IsTri.f k a0_0 l0_1).bind fun t192 => (if t192 = true then ((impl_turnedTri.f k a0_0 l0_1).bind fun bt193 => (some (bt193.1, bt193.2, true))) else (some (0, ([] : List Int), false)))) = some (r1, r2, r3) := h
 clear h
 replace H := Option.bind_eq_some_iff.mp H
 obtain ⟨t192, A20, H⟩ := H
 replace H : (if t192 = true then ((impl_turnedTri.f k a0_0 l0_1).bind fun bt193 => (some (bt193.1, bt193.2, true))) else (some (0, ([] : List Int), false))) = some (r1, r2, r3) := H
 have A2 := Aside0.mk A20
 clear A20
 by_cases c3 : t192 = true
 ·subst c3
  have H1 : ((impl_turnedTri.f k a0_0 l0_1).bind fun bt193 => (some (bt193.1, bt193.2, true))) = some (r1, r2, r3) := by rw [if_pos rfl] at H; exact H
  clear H
  have H := H1
  clear H1
  replace H := Option.bind_eq_some_iff.mp H
  obtain ⟨⟨t193, t194⟩, A40, H⟩ := H
  replace H : (some (t193, t194, true)) = some (r1, r2, r3) := H
  have A4 := Aside0.mk A40
  clear A40
  simp only [Option.some.injEq, Prod.mk.injEq] at H
  obtain ⟨rfl, rfl, rfl⟩ := H
  go_enter Tryd.func14, Tryd.ntmps14
  go_wp2_with (first | ((with_reducible refine gate_dst (N := 1) rfl ?_); refine box_event ?hg (N := 1) ?hd (cs := #[.int .i64 a0_0, .slice A0_1 l0_1.length c0_1]) (t := 26) ?hr ?_; (case hd => rfl); (case hg => rfl); (case hr => first | (go_simp; done) | (go_simp; rfl)); intro gb190 hg w5 hbox hb; have n0_ := Aside0.mk (below_step (by repeat (first | (with_reducible first | exact HB.out | apply below_alloc | apply pw_below_drewN | apply below_drew1) | exact HB.out)) hb); have n1_ := Aside0.mk (hbox); have n2_ := Aside0.mk ((by rw [hg]; exact (below_size (by repeat (first | (with_reducible first | exact HB.out | apply below_alloc | apply pw_below_drewN | apply below_drew1) | exact HB.out))) : w.heap.size ≤ gb190)); have n3_ := Aside0.mk ((by rw [hg]; exact (below_size (by repeat (first | (with_reducible first | exact HB.out | apply below_alloc | apply pw_below_drewN | apply below_drew1) | exact HB.out))) : w.heap.size ≤ gb190)); clear HB; have HB := n0_; have BK190 := n1_; have GW190 := n2_; have GE190 := n3_; clear n0_ n1_ n2_ n3_; clear hb hbox hg) | ((with_reducible refine gate_dst (N := 2) rfl ?_); refine box_event ?hg (N := 2) ?hd (cs := #[.int .i64 0, .slice none 0 0]) (t := 26) ?hr ?_; (case hd => rfl); (case hg => rfl); (case hr => first | (go_simp; done) | (go_simp; rfl)); intro gb191 hg w6 hbox hb; have n0_ := Aside0.mk (blk_below (g := gb190) (o := .cells #[.int .i64 a0_0, .slice A0_1 l0_1.length c0_1] 26 (0, 0)) (by (with_reducible repeat (first | refine blk_drewN ?_ _ | refine blk_drew ?_ | refine blk_alloc ?_ _)); exact BK190.out) hb); have n1_ := Aside0.mk (below_step (by repeat (first | (with_reducible first | exact HB.out | apply below_alloc | apply pw_below_drewN | apply below_drew1 | refine below_set ?_ GE190.out) | exact HB.out)) hb); have n2_ := Aside0.mk (hbox); have n3_ := Aside0.mk ((by rw [hg]; exact (below_size (by repeat (first | (with_reducible first | exact HB.out | apply below_alloc | apply pw_below_drewN | apply below_drew1 | refine below_set ?_ GE190.out) | exact HB.out))) : w.heap.size ≤ gb191)); have n4_ := Aside0.mk ((by rw [hg]; exact (below_size (by repeat (first | (with_reducible first | exact HB.out | apply below_alloc | apply pw_below_drewN | apply below_drew1 | refine below_set ?_ GE190.out) | exact HB.out))) : w.heap.size ≤ gb191)); have n5_ := Aside0.mk ((by rw [hg]; exact Nat.ne_of_lt (blk_lt (g := gb190) (o := .cells #[.int .i64 a0_0, .slice A0_1 l0_1.length c0_1] 26 (0, 0)) (by (with_reducible repeat (first | refine blk_drewN ?_ _ | refine blk_drew ?_ | refine blk_alloc ?_ _)); exact BK190.out)) : gb190 ≠ gb191)); have n6_ := Aside0.mk ((by rw [hg]; exact Nat.ne_of_gt (blk_lt (g := gb190) (o := .cells #[.int .i64 a0_0, .slice A0_1 l0_1.length c0_1] 26 (0, 0)) (by (with_reducible repeat (first | refine blk_drewN ?_ _ | refine blk_drew ?_ | refine blk_alloc ?_ _)); exact BK190.out)) : gb191 ≠ gb190)); clear BK190; clear HB; have BK190 := n0_; have HB := n1_; have BK191 := n2_; have GW191 := n3_; have GE191 := n4_; have NB190_191 := n5_; have NB191_190 := n6_; clear n0_ n1_ n2_ n3_ n4_ n5_ n6_; clear hb hbox hg; have hnb7 := NB190_191.out; have hnc7 := NB191_190.out; have hcz8_0 : w6.cell? ⟨gb190, 0, none⟩ = some (.int .i64 a0_0) := (blk_cell BK190.out 0).trans rfl; have hcz8_1 : w6.cell? ⟨gb190, 1, none⟩ = some (.slice A0_1 l0_1.length c0_1) := (blk_cell BK190.out 1).trans rfl; have hfz8_0 := blk_frozen BK190.out 0; have hfz8_1 := blk_frozen BK190.out 1) | ((with_reducible refine gate_callee (f := 19) rfl ?_); refine goesL_ (some 5) rfl rfl Tryd.func19 (by kernel_rfl) rfl #[.agg #[.int .i64 a0_0, .slice A0_1 l0_1.length c0_1]] rfl (by (try simp only [List.map_toArray, List.map_cons, List.map_nil]); first | done | rfl | (simp only [List.length_drop, List.length_take]; rfl)) ?_; (with_reducible refine (impl_IsTri.calls k a0_0 _ _ l0_1 true _ ?side1 ?side2 A2.out).mono ?_); (case side1 => repeat (first | exact (Kd.C_below HR0_1.out HB.out) | (with_reducible refine Kd.C_alloc ?_ _) | (with_reducible refine Kd.C_drewN ?_ _) | (with_reducible refine Kd.C_drew ?_))); (case side2 => exact HC0_1.out); rintro e w9 ⟨rfl, hb⟩; refine ⟨_, rfl, ?_⟩; have n0_ := Aside0.mk (blk_below (g := gb190) (o := .cells #[.int .i64 a0_0, .slice A0_1 l0_1.length c0_1] 26 (0, 0)) (by (with_reducible repeat (first | refine blk_drewN ?_ _ | refine blk_drew ?_ | refine blk_alloc ?_ _)); exact BK190.out) hb); have n1_ := Aside0.mk (blk_below (g := gb191) (o := .cells #[.int .i64 0, .slice none 0 0] 26 (0, 0)) (by (with_reducible repeat (first | refine blk_drewN ?_ _ | refine blk_drew ?_ | refine blk_alloc ?_ _)); exact BK191.out) hb); have n2_ := Aside0.mk (below_step (by repeat (first | (with_reducible first | exact HB.out | apply below_alloc | apply pw_below_drewN | apply below_drew1 | refine below_set ?_ GE190.out | refine below_set ?_ GE191.out) | exact HB.out)) hb); clear BK190; clear BK191; clear HB; have BK190 := n0_; have BK191 := n1_; have HB := n2_; clear n0_ n1_ n2_; (try clear hb); (try clear hb2); (try clear hk); (try clear hi); have hcz10_0 : w9.cell? ⟨gb190, 0, none⟩ = some (.int .i64 a0_0) := (blk_cell BK190.out 0).trans rfl; have hcz10_1 : w9.cell? ⟨gb190, 1, none⟩ = some (.slice A0_1 l0_1.length c0_1) := (blk_cell BK190.out 1).trans rfl; have hfz10_0 := blk_frozen BK190.out 0; have hfz10_1 := blk_frozen BK190.out 1) | ((with_reducible refine gate_callee (f := 26) rfl ?_); refine goesL_ (some 9) rfl rfl Tryd.func26 (by kernel_rfl) rfl #[.agg #[.int .i64 a0_0, .slice A0_1 l0_1.length c0_1]] rfl (by (try simp only [List.map_toArray, List.map_cons, List.map_nil]); first | done | rfl | (simp only [List.length_drop, List.length_take]; rfl)) ?_; (with_reducible refine (impl_turnedTri.calls k a0_0 _ _ l0_1 t193 t194 _ ?side1 ?side2 ?side3 A4.out).mono ?_); (case side1 => repeat (first | exact (Kd.C_below HR0_1.out HB.out) | (with_reducible refine Kd.C_alloc ?_ _) | (with_reducible refine Kd.C_drewN ?_ _) | (with_reducible refine Kd.C_drew ?_))); (case side2 => exact HC0_1.out); (case side3 => first | exact LaidG_below HG.out (by repeat (first | (with_reducible first | exact HB.out | apply below_alloc | apply pw_below_drewN | apply below_drew1 | refine below_set ?_ GE190.out | refine below_set ?_ GE191.out) | exact HB.out)) | (repeat (first | exact HG.out | (with_reducible refine LaidG_alloc ?_ _) | (with_reducible refine LaidG_drewN ?_ _) | (with_reducible refine LaidG_drew ?_)))); rintro e w11 ⟨v195, rfl, ho0, hb⟩; refine ⟨_, rfl, ?_⟩; have n0_ := Aside0.mk (Kd.R_lower ho0 (below_size (by repeat (first | (with_reducible first | exact HB.out | apply below_alloc | apply pw_below_drewN | apply below_drew1 | refine below_set ?_ GE190.out | refine below_set ?_ GE191.out) | exact HB.out)))); have n1_ := Aside0.mk (blk_below (g := gb190) (o := .cells #[.int .i64 a0_0, .slice A0_1 l0_1.length c0_1] 26 (0, 0)) (by (with_reducible repeat (first | refine blk_drewN ?_ _ | refine blk_drew ?_ | refine blk_alloc ?_ _)); exact BK190.out) hb); have n2_ := Aside0.mk (blk_below (g := gb191) (o := .cells #[.int .i64 0, .slice none 0 0] 26 (0, 0)) (by (with_reducible repeat (first | refine blk_drewN ?_ _ | refine blk_drew ?_ | refine blk_alloc ?_ _)); exact BK191.out) hb); have n3_ := Aside0.mk (below_step (by repeat (first | (with_reducible first | exact HB.out | apply below_alloc | apply pw_below_drewN | apply below_drew1 | refine below_set ?_ GE190.out | refine below_set ?_ GE191.out) | exact HB.out)) hb); clear BK190; clear BK191; clear HB; have HO196 := n0_; have BK190 := n1_; have BK191 := n2_; have HB := n3_; clear n0_ n1_ n2_ n3_; (try clear hb); (try clear hb2); (try clear hk); (try clear hi); (try clear ho0); have hcz12_0 : w11.cell? ⟨gb191, 0, none⟩ = some (.int .i64 0) := (blk_cell BK191.out 0).trans rfl; have hcz12_1 : w11.cell? ⟨gb191, 1, none⟩ = some (.slice none 0 0) := (blk_cell BK191.out 1).trans rfl; have hfz12_0 := blk_frozen BK191.out 0; have hfz12_1 := blk_frozen BK191.out 1; obtain ⟨Ao13, co13, eo13⟩ := Kd.R_slice HO196.out; subst eo13))
  refine bodyPost_ret (results_ct rfl _ _ gb191 26 #[.int .i64 t193, .slice Ao13 t194.length co13] (0, 0) _ rfl (by (with_reducible repeat (first | refine blk_drewN ?_ _ | refine blk_drew ?_ | refine blk_alloc ?_ _)); refine blk_put (cs := #[.int .i64 t193, .slice none 0 0]) ?_ 1 _ rfl; (with_reducible repeat (first | refine blk_drewN ?_ _ | refine blk_drew ?_ | refine blk_alloc ?_ _)); refine blk_put (cs := #[.int .i64 0, .slice none 0 0]) ?_ 0 _ rfl; (with_reducible repeat (first | refine blk_drewN ?_ _ | refine blk_drew ?_ | refine blk_alloc ?_ _)); exact BK191.out) Tryd.underlying26 rfl (by kernel_rfl)) rfl ?_
  exact ⟨_, by first | rfl | (simp [errW_none, errW_some] <;> rfl) | (simp [*, errW_none, errW_some] <;> rfl), by (with_reducible repeat (first | apply Kd.R_alloc | apply Kd.R_drewN | apply Kd.R_drew)); exact Kd.R_mono (Kd.R_far (p := ⟨gb191, 1, none⟩) (Kd.R_far (p := ⟨gb191, 0, none⟩) (Kd.R_types HO196.out BK191.out (by decide)) (fun _ hk => hk.2) (.int .i64 t193)) (fun _ hk => hk.2) (.slice Ao13 t194.length co13)) (fun _ hk => trivial), by repeat (first | (with_reducible first | exact HB.out | apply below_alloc | apply pw_below_drewN | apply below_drew1 | refine below_set ?_ GE190.out | refine below_set ?_ GE191.out) | exact HB.out)⟩
 ·replace c3 := Bool.eq_false_iff.mpr c3
  subst c3
  have H1 : (some (0, ([] : List Int), false)) = some (r1, r2, r3) := by rw [if_neg (show ¬ (false = true) by decide)] at H; exact H
  clear H
  have H := H1
  clear H1
  simp only [Option.some.injEq, Prod.mk.injEq] at H
  obtain ⟨rfl, rfl, rfl⟩ := H
  go_enter Tryd.func14, Tryd.ntmps14
  go_wp2_with (first | ((with_reducible refine gate_dst (N := 1) rfl ?_); refine box_event ?hg (N := 1) ?hd (cs := #[.int .i64 a0_0, .slice A0_1 l0_1.length c0_1]) (t := 26) ?hr ?_; (case hd => rfl); (case hg => rfl); (case hr => first | (go_simp; done) | (go_simp; rfl)); intro gb190 hg w14 hbox hb; have n0_ := Aside0.mk (below_step (by repeat (first | (with_reducible first | exact HB.out | apply below_alloc | apply pw_below_drewN | apply below_drew1) | exact HB.out)) hb); have n1_ := Aside0.mk (hbox); have n2_ := Aside0.mk ((by rw [hg]; exact (below_size (by repeat (first | (with_reducible first | exact HB.out | apply below_alloc | apply pw_below_drewN | apply below_drew1) | exact HB.out))) : w.heap.size ≤ gb190)); have n3_ := Aside0.mk ((by rw [hg]; exact (below_size (by repeat (first | (with_reducible first | exact HB.out | apply below_alloc | apply pw_below_drewN | apply below_drew1) | exact HB.out))) : w.heap.size ≤ gb190)); clear HB; have HB := n0_; have BK190 := n1_; have GW190 := n2_; have GE190 := n3_; clear n0_ n1_ n2_ n3_; clear hb hbox hg) | ((with_reducible refine gate_dst (N := 2) rfl ?_); refine box_event ?hg (N := 2) ?hd (cs := #[.int .i64 0, .slice none 0 0]) (t := 26) ?hr ?_; (case hd => rfl); (case hg => rfl); (case hr => first | (go_simp; done) | (go_simp; rfl)); intro gb191 hg w15 hbox hb; have n0_ := Aside0.mk (blk_below (g := gb190) (o := .cells #[.int .i64 a0_0, .slice A0_1 l0_1.length c0_1] 26 (0, 0)) (by (with_reducible repeat (first | refine blk_drewN ?_ _ | refine blk_drew ?_ | refine blk_alloc ?_ _)); exact BK190.out) hb); have n1_ := Aside0.mk (below_step (by repeat (first | (with_reducible first | exact HB.out | apply below_alloc | apply pw_below_drewN | apply below_drew1 | refine below_set ?_ GE190.out) | exact HB.out)) hb); have n2_ := Aside0.mk (hbox); have n3_ := Aside0.mk ((by rw [hg]; exact (below_size (by repeat (first | (with_reducible first | exact HB.out | apply below_alloc | apply pw_below_drewN | apply below_drew1 | refine below_set ?_ GE190.out) | exact HB.out))) : w.heap.size ≤ gb191)); have n4_ := Aside0.mk ((by rw [hg]; exact (below_size (by repeat (first | (with_reducible first | exact HB.out | apply below_alloc | apply pw_below_drewN | apply below_drew1 | refine below_set ?_ GE190.out) | exact HB.out))) : w.heap.size ≤ gb191)); have n5_ := Aside0.mk ((by rw [hg]; exact Nat.ne_of_lt (blk_lt (g := gb190) (o := .cells #[.int .i64 a0_0, .slice A0_1 l0_1.length c0_1] 26 (0, 0)) (by (with_reducible repeat (first | refine blk_drewN ?_ _ | refine blk_drew ?_ | refine blk_alloc ?_ _)); exact BK190.out)) : gb190 ≠ gb191)); have n6_ := Aside0.mk ((by rw [hg]; exact Nat.ne_of_gt (blk_lt (g := gb190) (o := .cells #[.int .i64 a0_0, .slice A0_1 l0_1.length c0_1] 26 (0, 0)) (by (with_reducible repeat (first | refine blk_drewN ?_ _ | refine blk_drew ?_ | refine blk_alloc ?_ _)); exact BK190.out)) : gb191 ≠ gb190)); clear BK190; clear HB; have BK190 := n0_; have HB := n1_; have BK191 := n2_; have GW191 := n3_; have GE191 := n4_; have NB190_191 := n5_; have NB191_190 := n6_; clear n0_ n1_ n2_ n3_ n4_ n5_ n6_; clear hb hbox hg; have hnb16 := NB190_191.out; have hnc16 := NB191_190.out; have hcz17_0 : w15.cell? ⟨gb190, 0, none⟩ = some (.int .i64 a0_0) := (blk_cell BK190.out 0).trans rfl; have hcz17_1 : w15.cell? ⟨gb190, 1, none⟩ = some (.slice A0_1 l0_1.length c0_1) := (blk_cell BK190.out 1).trans rfl; have hfz17_0 := blk_frozen BK190.out 0; have hfz17_1 := blk_frozen BK190.out 1) | ((with_reducible refine gate_callee (f := 19) rfl ?_); refine goesL_ (some 5) rfl rfl Tryd.func19 (by kernel_rfl) rfl #[.agg #[.int .i64 a0_0, .slice A0_1 l0_1.length c0_1]] rfl (by (try simp only [List.map_toArray, List.map_cons, List.map_nil]); first | done | rfl | (simp only [List.length_drop, List.length_take]; rfl)) ?_; (with_reducible refine (impl_IsTri.calls k a0_0 _ _ l0_1 false _ ?side1 ?side2 A2.out).mono ?_); (case side1 => repeat (first | exact (Kd.C_below HR0_1.out HB.out) | (with_reducible refine Kd.C_alloc ?_ _) | (with_reducible refine Kd.C_drewN ?_ _) | (with_reducible refine Kd.C_drew ?_))); (case side2 => exact HC0_1.out); rintro e w18 ⟨rfl, hb⟩; refine ⟨_, rfl, ?_⟩; have n0_ := Aside0.mk (blk_below (g := gb190) (o := .cells #[.int .i64 a0_0, .slice A0_1 l0_1.length c0_1] 26 (0, 0)) (by (with_reducible repeat (first | refine blk_drewN ?_ _ | refine blk_drew ?_ | refine blk_alloc ?_ _)); exact BK190.out) hb); have n1_ := Aside0.mk (blk_below (g := gb191) (o := .cells #[.int .i64 0, .slice none 0 0] 26 (0, 0)) (by (with_reducible repeat (first | refine blk_drewN ?_ _ | refine blk_drew ?_ | refine blk_alloc ?_ _)); exact BK191.out) hb); have n2_ := Aside0.mk (below_step (by repeat (first | (with_reducible first | exact HB.out | apply below_alloc | apply pw_below_drewN | apply below_drew1 | refine below_set ?_ GE190.out | refine below_set ?_ GE191.out) | exact HB.out)) hb); clear BK190; clear BK191; clear HB; have BK190 := n0_; have BK191 := n1_; have HB := n2_; clear n0_ n1_ n2_; (try clear hb); (try clear hb2); (try clear hk); (try clear hi); have hcz19_0 : w18.cell? ⟨gb191, 0, none⟩ = some (.int .i64 0) := (blk_cell BK191.out 0).trans rfl; have hcz19_1 : w18.cell? ⟨gb191, 1, none⟩ = some (.slice none 0 0) := (blk_cell BK191.out 1).trans rfl; have hfz19_0 := blk_frozen BK191.out 0; have hfz19_1 := blk_frozen BK191.out 1))
  refine bodyPost_ret (results_ct rfl _ _ gb191 26 #[.int .i64 0, .slice none 0 0] (0, 0) _ rfl (by (with_reducible repeat (first | refine blk_drewN ?_ _ | refine blk_drew ?_ | refine blk_alloc ?_ _)); refine blk_put (cs := #[.int .i64 0, .slice none 0 0]) ?_ 1 _ rfl; (with_reducible repeat (first | refine blk_drewN ?_ _ | refine blk_drew ?_ | refine blk_alloc ?_ _)); refine blk_put (cs := #[.int .i64 0, .slice none 0 0]) ?_ 0 _ rfl; (with_reducible repeat (first | refine blk_drewN ?_ _ | refine blk_drew ?_ | refine blk_alloc ?_ _)); exact BK191.out) Tryd.underlying26 rfl (by kernel_rfl)) rfl ?_
  exact ⟨_, by first | rfl | (simp [errW_none, errW_some] <;> rfl) | (simp [*, errW_none, errW_some] <;> rfl), by first | exact Kd.R_nil _ _ _ _ _ | exact Kd.N_nil _ _ _ _ _ | exact Kd.V_nil _ _ _ _ _ | exact Kd.Q_nil _ _ _ _ _ | exact Kd.S_nil _ _ _ _ _, by repeat (first | (with_reducible first | exact HB.out | apply below_alloc | apply pw_below_drewN | apply below_drew1 | refine below_set ?_ GE190.out | refine below_set ?_ GE191.out) | exact HB.out)⟩

end Go.Proofs.YtjkkgnpgjgfidaaDoor.Q
