/- Words of this session, beside the printed ones: a row of whole numbers of which it is told, too, what its array holds behind the length ('PB'). -/
import Derived.Test.YtmjlmmfhcabnfaaGreatDoorVFnExactFalseByMove
import Derived.Laws.Slices
import Derived.Shelf.Abstract
import Derived.Lib.BitFns
import Derived.Lib.SliceRun
import Derived.Lib.SlBytesConst
import Derived.Shelf.Strings.SlTrimAscii
import Derived.Shelf.Strings.IndexAnyAll
import Derived.Shelf.Strings.Cut
import Derived.Laws.Runes
import Derived.WalkMore
import Derived.Lib.OthersKept
import Derived.Shelf.Small.Utf8
import Derived.Laws.RangeAny
import Derived.Shelf.Strconv.Atoi
import Derived.Shelf.Sort.Plain
import Derived.Sort.OwnSorted
namespace Go.Proofs.YtmjlmmfhcabnfaaGreatDoorW.PrintWords
open Go.RowKit
/-- How many cells of spare capacity the laws lay behind a list of n. -/
def roomOf (n : Nat) : Nat := if n % 6 = 5 then 0 else if n % 3 = 0 then 1 else n
def spareV : Value := .int .i64 (-7000000000000000101)
def spares (n : Nat) : List Int := List.replicate (roomOf n) (-7000000000000000101)
def Spv (w : World) (v : Value) (xs : List Int) : Prop := ∃ g c cur t, v = .slice (some ⟨g, 0, none⟩) xs.length c ∧ w.heap[g]? = some (.cells cur t (0, 0)) ∧ xs.length + roomOf xs.length ≤ c ∧ ∀ i, i < roomOf xs.length → cur[xs.length + i]? = some spareV
theorem Spv.move {w w1 : World} {v : Value} {xs : List Int} (h : Spv w v xs) (hm : ∀ k, v.ownBlock = some k → k < w.heap.size → w1.heap[k]? = w.heap[k]?) : Spv w1 v xs := by
  obtain ⟨g, c, cur, t, rfl, hg, hc, hi⟩ := h
  exact ⟨g, c, cur, t, rfl, (hm g (by simp [Value.ownBlock]) (blk_lt hg)).trans hg, hc, hi⟩
/-- A quiet call behind draws. -/
theorem quiet_addD {P : Program} {f : FuncId} {args : Array Value} {w : World} {a n : Nat} {v : Value}
    (h : Calls P f args (w.drewN (a + n)) fun e w' => e = .returned v ∧ Drawn0 (w.drewN (a + n)) w') :
    Calls P f args (w.drewN (a + n)) fun e w'' => e = .returned v ∧ ∃ m, w'' = w.drewN (a + m) :=
  h.mono fun _ _ ⟨he, ⟨m, hm⟩⟩ => ⟨he, n + m, by rw [hm, World.drewN_drewN, Nat.add_assoc]⟩
theorem quiet_D {P : Program} {f : FuncId} {args : Array Value} {w : World} {n : Nat} {v : Value}
    (h : Calls P f args (w.drewN n) fun e w' => e = .returned v ∧ Drawn0 (w.drewN n) w') :
    Calls P f args (w.drewN n) fun e w'' => e = .returned v ∧ ∃ m, w'' = w.drewN m :=
  h.mono fun _ _ ⟨he, ⟨m, hm⟩⟩ => ⟨he, n + m, by rw [hm, World.drewN_drewN]⟩
namespace Kd
open Go.Proofs.YtmjlmmfhcabnfaaGreatDoorW.PrintMore.Kd
def Sp (w : World) (A : Option Addr) (c : Nat) (xs : List Int) : Prop := Spv w (.slice A xs.length c) xs
theorem Sp_below {w w1 : World} {A : Option Addr} {c : Nat} {xs : List Int} (h : Sp w A c xs) (hb : Below w.heap.size w w1) : Sp w1 A c xs := Spv.move h (fun k _ hk => hb.block k hk)
theorem Sp_alloc {w : World} {A : Option Addr} {c : Nat} {xs : List Int} (h : Sp w A c xs) (o : Obj) : Sp (w.alloc o) A c xs := Sp_below h (below_alloc (Below.refl _ _) o)
theorem Sp_drew {w : World} {A : Option Addr} {c : Nat} {xs : List Int} (h : Sp w A c xs) : Sp w.drew A c xs := Sp_below h (below_drew (Below.refl _ _))
theorem Sp_drewN {w : World} {A : Option Addr} {c : Nat} {xs : List Int} (h : Sp w A c xs) (m : Nat) : Sp (w.drewN m) A c xs := Sp_below h (pw_below_drewN (Below.refl _ _) m)
def PB (b : Bool) (d : Kd Int) (e : Nat) (w : World) (base : Nat) (ok : Nat → Prop) (v : Value) (xs : List Int) : Prop := d.R e w base ok v xs ∧ (b = false → Spv w v xs)
section
variable {b : Bool} {β : Type} {d : Kd Int} {d' : Kd β} {e e' base base' : Nat} {ok ok' : Nat → Prop} {w w1 W W2 : World} {u v : Value} {xs : List Int} {ys : List β} {S : Nat → Prop} {g N : Nat}
theorem PB_R (h : PB b d e w base ok v xs) : d.R e w base ok v xs := h.1
theorem PB_sp {A : Option Addr} {n c : Nat} (h : PB false d e w base ok (.slice A n c) xs) : Sp w A c xs := by
  have hs := h.2 rfl
  obtain ⟨rfl, _, _⟩ := R_reads' h.1
  exact hs
theorem PB_mono (h : PB b d e w base ok v xs) (hok : ∀ k, ok k → ok' k) : PB b d e w base ok' v xs := ⟨R_mono h.1 hok, h.2⟩
theorem PB_lower (h : PB b d e w base ok v xs) (hb : base' ≤ base) : PB b d e w base' ok v xs := ⟨R_lower h.1 hb, h.2⟩
theorem PB_below (h : PB b d e w base ok v xs) (hb : Below w.heap.size w w1) : PB b d e w1 base ok v xs := ⟨R_below h.1 hb, fun hf => (h.2 hf).move (fun k _ hk => hb.block k hk)⟩
theorem PB_alloc (h : PB b d e w base ok v xs) (o : Obj) : PB b d e (w.alloc o) base ok v xs := PB_below h (below_alloc (Below.refl _ _) o)
theorem PB_drew (h : PB b d e w base ok v xs) : PB b d e w.drew base ok v xs := PB_below h (below_drew (Below.refl _ _))
theorem PB_drewN (h : PB b d e w base ok v xs) (m : Nat) : PB b d e (w.drewN m) base ok v xs := PB_below h (pw_below_drewN (Below.refl _ _) m)
theorem PB_far (h : PB b d e w base ok v xs) {p : Addr} (hok : ∀ k, ok k → k ≠ p.block) (u : Value) : PB b d e (w.setCell p u) base ok v xs := ⟨R_far h.1 hok u, fun hf => (h.2 hf).move (fun k hk _ => Below.heap_setCell w p u k (hok k (h.1.1 k hk)))⟩
theorem PB_types (h : PB b d e w base ok v xs) {g t : Nat} {cells : Array Value} (hb : w.heap[g]? = some (.cells cells t (0, 0))) (ht : ∀ q, q ∈ e :: d.E → q ≠ t) : PB b d e w base (fun k => ok k ∧ k ≠ g) v xs := ⟨R_types h.1 hb ht, h.2⟩
theorem PB_slice (h : PB b d e w base ok v xs) : ∃ A c, v = .slice A xs.length c := R_slice h.1
theorem PB_reads' {A : Option Addr} {n c : Nat} (h : PB b d e w base ok (.slice A n c) xs) : n = xs.length ∧ n ≤ c ∧ d.C w A xs.length xs := R_reads' h.1
theorem PB_lt (h : PB b d e w base ok v xs) : ∀ k, v.ownBlock = some k → k < w.heap.size := R_lt h.1
theorem PB_base (h : PB b d e w base ok v xs) : ∀ k, v.ownBlock = some k → base ≤ k := R_base h.1
theorem PB_base2 (h : PB b d e w base ok v xs) : v.ownBlock = none ∨ ∃ k, v.ownBlock = some k ∧ base ≤ k := R_base2 h.1
theorem PB_typed (h : PB b d e w base ok v xs) : ∀ k, v.ownBlock = some k → ∃ cells, w.heap[k]? = some (.cells cells e (0, 0)) := R_typed h.1
theorem PB_ne (h : PB b d e w base ok v xs) {g t : Nat} {cells : Array Value} (hb : w.heap[g]? = some (.cells cells t (0, 0))) (ht : e ≠ t) : some g ≠ v.ownBlock := R_ne h.1 hb ht
theorem PB_away (h : PB b d e w base ok v xs) {g : Nat} (hok : ∀ k, ok k → k ≠ g) : some g ≠ v.ownBlock := R_away h.1 hok
theorem PB_old (hu : PB b d e W base ok u xs) (hb : Below W.heap.size W w1) : PB b d e w1 base (fun k => ok k ∧ k < W.heap.size) u xs := ⟨R_old hu.1 hb, (PB_below hu hb).2⟩
theorem PB_told {N : Nat} (h : PB b d e w1 base (fun k => ok k ∧ k < N) u xs) (hbase : ∀ k, v.ownBlock = some k → N ≤ k) : PB b d e w1 base (fun k => (ok k ∧ some k ≠ v.ownBlock) ∧ k < N) u xs := ⟨R_told h.1 hbase, h.2⟩
theorem PB_elder' (hu : PB b d e W base ok u xs) (hbase : ∀ k, v.ownBlock = some k → W.heap.size ≤ k) (hb : Below W.heap.size W w1) : PB b d e w1 base (fun k => ok k ∧ some k ≠ v.ownBlock) u xs := ⟨R_elder' hu.1 hbase hb, (PB_below hu hb).2⟩
theorem PB_new' (h : PB b d e w1 W.heap.size ok v xs) (hlt : ∀ k, u.ownBlock = some k → k < W.heap.size) : PB b d e w1 W.heap.size (fun k => ok k ∧ some k ≠ u.ownBlock) v xs := ⟨R_new' h.1 hlt, h.2⟩
theorem PB_newB {g : Nat} {o : Obj} (h : PB b d e w1 w.heap.size ok v xs) (hb : w.heap[g]? = some o) : PB b d e w1 w.heap.size (fun k => ok k ∧ k ≠ g) v xs := ⟨R_newB h.1 hb, h.2⟩
theorem PB_apart' {e' : Nat} (h : PB b d e W base ok u xs) (hty : ∀ k, v.ownBlock = some k → ∃ cells, W.heap[k]? = some (.cells cells e' (0, 0))) (ht : ∀ q, q ∈ e :: d.E → q ≠ e') : PB b d e W base (fun k => ok k ∧ some k ≠ v.ownBlock) u xs := ⟨R_apart' h.1 hty ht, h.2⟩
theorem PB_keptB {S : Nat → Prop} {W2 : World} (h : PB b d e W base ok v xs) (hk : Kept W W2 S) (hne : ∀ k, ok k → ¬ S k) : PB b d e W2 base (fun k => ok k ∧ (¬ S k ∧ k < W.heap.size)) v xs := ⟨R_keptB h.1 hk hne, fun hf => (h.2 hf).move (fun k hk1 hlt => hk.2 k hlt (hne k (h.1.1 k hk1)))⟩
theorem PB_tight (hE : d.E = []) (h : PB b d e w base ok v xs) : PB b d e w base (fun k => some k = v.ownBlock) v xs := ⟨R_tight hE h.1, h.2⟩
theorem PB_apart_nil (h : PB b d e w base ok u xs) : PB b d e w base (fun k => ok k ∧ some k ≠ (Value.slice none 0 0).ownBlock) u xs := ⟨R_apart_nil h.1, h.2⟩
end
end Kd
end Go.Proofs.YtmjlmmfhcabnfaaGreatDoorW.PrintWords
