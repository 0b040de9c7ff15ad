-- written by a program of this session, pm.py, for this claim
-- half the indentation
import Derived.Test.YtmjlmmfhcabnfaaGreatDoorQFnExactFalseByMovex0
import Derived.Test.YtmjlmmfhcabnfaaGreatDoorQFnExactFalseByMovex5
namespace Go.Proofs.YtmjlmmfhcabnfaaGreatDoor.Q
open Go.RowKit Go.Proofs.YtmjlmmfhcabnfaaGreatDoorW.PrintWords Go.Proofs.YtmjlmmfhcabnfaaGreatDoorW.PrintLast Go.Proofs.YtmjlmmfhcabnfaaGreatDoorW.PrintMore
attribute [local go_sem] max2_int min2_int max_two min_two max_three min_three max_four min_four   -- for this text's walks alone
set_option linter.unusedVariables false
set_option linter.unusedSimpArgs false

/-! ### impl_numerals: function 37 -/
open Go.Shelf in
def Tryz.lays153_ren : Go.Shelf.Ren := ⟨fun | 153 => 49 | 152 => 63 | 226 => 64 | 227 => 65 | 228 => 66 | 137 => 87 | 119 => 88 | 224 => 89 | 225 => 90 | 217 => 107 | 266 => 116 | n => n, fun | 9 => 9 | 3 => 3 | 4 => 4 | 5 => 5 | 21 => 21 | 117 => 83 | 116 => 82 | 0 => 0 | 46 => 75 | 124 => 110 | n => n, fun | n => n⟩
open Go.Shelf in
theorem Tryz.lays153 : Go.Proofs.Lays.n153 Tryz.prog Tryz.lays153_ren := {
 mixed := by kernel_rfl,
 f119 := Tryz.func88.trans (congrArg some (by kernel_rfl)),
 f137 := Tryz.func87.trans (congrArg some (by kernel_rfl)),
 f152 := Tryz.func63.trans (congrArg some (by kernel_rfl)),
 f153 := Tryz.func49.trans (congrArg some (by kernel_rfl)),
 f217 := Tryz.func107.trans (congrArg some (by kernel_rfl)),
 f224 := Tryz.func89.trans (congrArg some (by kernel_rfl)),
 f225 := Tryz.func90.trans (congrArg some (by kernel_rfl)),
 f226 := Tryz.func64.trans (congrArg some (by kernel_rfl)),
 f227 := Tryz.func65.trans (congrArg some (by kernel_rfl)),
 f228 := Tryz.func66.trans (congrArg some (by kernel_rfl)),
 f266 := Tryz.func116.trans (congrArg some (by kernel_rfl)),
 t0 := Tryz.underlying0,
 a0 := Tryz.isAgg0,
 z0 := Tryz.sizeOf0,
 v0 := Tryz.zeroValue0,
 t3 := Tryz.underlying3,
 a3 := Tryz.isAgg3,
 z3 := Tryz.sizeOf3,
 v3 := Tryz.zeroValue3,
 t4 := Tryz.underlying4,
 a4 := Tryz.isAgg4,
 z4 := Tryz.sizeOf4,
 v4 := Tryz.zeroValue4,
 t5 := Tryz.underlying5,
 a5 := Tryz.isAgg5,
 z5 := Tryz.sizeOf5,
 v5 := Tryz.zeroValue5,
 t9 := Tryz.underlying9,
 a9 := Tryz.isAgg9,
 z9 := Tryz.sizeOf9,
 v9 := Tryz.zeroValue9,
 t21 := Tryz.underlying21,
 a21 := Tryz.isAgg21,
 z21 := Tryz.sizeOf21,
 v21 := Tryz.zeroValue21,
 t46 := Tryz.underlying75,
 a46 := Tryz.isAgg75,
 z46 := Tryz.sizeOf75,
 v46 := Tryz.zeroValue75,
 t116 := Tryz.underlying82,
 a116 := Tryz.isAgg82,
 z116 := Tryz.sizeOf82,
 t117 := Tryz.underlying83,
 a117 := Tryz.isAgg83,
 z117 := Tryz.sizeOf83,
 v117 := Tryz.zeroValue83,
 t124 := Tryz.underlying110,
 a124 := Tryz.isAgg110,
 z124 := Tryz.sizeOf110,
 v124 := Tryz.zeroValue110 }
open Go.Shelf in
def Tryz.lays145_ren : Go.Shelf.Ren := ⟨fun | 145 => 48 | 220 => 62 | 219 => 86 | 217 => 107 | 225 => 90 | 224 => 89 | 267 => 108 | 266 => 116 | 314 => 117 | n => n, fun | 9 => 9 | 4 => 4 | 59 => 65 | 3 => 3 | 5 => 5 | 46 => 75 | 146 => 134 | 51 => 98 | n => n, fun | 1 => 3 | n => n⟩
open Go.Shelf in
theorem Tryz.lays145 : Go.Proofs.Lays.n145 Tryz.prog Tryz.lays145_ren := {
 mixed := by kernel_rfl,
 f145 := Tryz.func48.trans (congrArg some (by kernel_rfl)),
 f217 := Tryz.func107.trans (congrArg some (by kernel_rfl)),
 f219 := Tryz.func86.trans (congrArg some (by kernel_rfl)),
 f220 := Tryz.func62.trans (congrArg some (by kernel_rfl)),
 f224 := Tryz.func89.trans (congrArg some (by kernel_rfl)),
 f225 := Tryz.func90.trans (congrArg some (by kernel_rfl)),
 f266 := Tryz.func116.trans (congrArg some (by kernel_rfl)),
 f267 := Tryz.func108.trans (congrArg some (by kernel_rfl)),
 f314 := Tryz.func117.trans (congrArg some (by kernel_rfl)),
 t3 := Tryz.underlying3,
 a3 := Tryz.isAgg3,
 z3 := Tryz.sizeOf3,
 v3 := Tryz.zeroValue3,
 t4 := Tryz.underlying4,
 a4 := Tryz.isAgg4,
 z4 := Tryz.sizeOf4,
 v4 := Tryz.zeroValue4,
 t5 := Tryz.underlying5,
 a5 := Tryz.isAgg5,
 z5 := Tryz.sizeOf5,
 v5 := Tryz.zeroValue5,
 t9 := Tryz.underlying9,
 a9 := Tryz.isAgg9,
 z9 := Tryz.sizeOf9,
 v9 := Tryz.zeroValue9,
 t46 := Tryz.underlying75,
 a46 := Tryz.isAgg75,
 z46 := Tryz.sizeOf75,
 v46 := Tryz.zeroValue75,
 t51 := Tryz.underlying98,
 a51 := Tryz.isAgg98,
 z51 := Tryz.sizeOf98,
 v51 := Tryz.zeroValue98,
 t59 := Tryz.underlying65,
 a59 := Tryz.isAgg65,
 z59 := Tryz.sizeOf65,
 v59 := Tryz.zeroValue65,
 t146 := Tryz.underlying134,
 a146 := Tryz.isAgg134,
 z146 := Tryz.sizeOf134,
 v146 := Tryz.zeroValue134,
 g1 := by kernel_rfl }
/-! strings.Cut at "=" -/
set_option maxHeartbeats 8000000 in
set_option maxRecDepth 100000 in
theorem cut_lite (s : ByteArray) (c : UInt8) (w : World) (hsz : s.size < 4294967281) :
  Calls Tryz.prog 62 #[.string s, .string ⟨#[c]⟩] w fun e w' => e = .returned (.tuple #[.string ⟨(Lib.cut s.data.toList [c]).1.toArray⟩, .string ⟨(Lib.cut s.data.toList [c]).2.1.toArray⟩, .bool (Lib.cut s.data.toList [c]).2.2]) ∧ ∃ n, w' = w.drewN n := by
 have hI : Calls Tryz.prog 86 #[.string s, .string ⟨#[c]⟩] w fun e w' => e = .returned (.int .i64 (Lib.index s.data.toList [c])) ∧ w' = w := by
  have := Any.stringslite_Index_one { Tryz.lays145 with } s c w
  rw [← Lib.index_one] at this
  exact this
 have hs1 : (⟨#[c]⟩ : ByteArray).size = 1 := rfl
 rcases Lib.indexB_cases s ⟨#[c]⟩ with hix | ⟨i, hix, hroom⟩
 ·obtain ⟨e1, e2, e3⟩ := Lib.cutB_miss s ⟨#[c]⟩ hix
  rw [show Lib.index s.data.toList [c] = _ from hix] at hI
  rw [show (⟨#[c]⟩ : ByteArray).data.toList = [c] from rfl] at e1 e2 e3
  rw [e1, e2, e3]
  have HI := Aside0.mk hI
  clear hI hix e1 e2 e3
  go_enter Tryz.func62, Tryz.ntmps62
  go_wp2_with (go_at_call 86; refine HI.out.mono ?_; rintro e w' ⟨rfl, rfl⟩)
  go_ret3
  exact ⟨rfl, 0, rfl⟩
 ·obtain ⟨e1, e2, e3⟩ := Lib.cutB_hit s ⟨#[c]⟩ i hix
  rw [show Lib.index s.data.toList [c] = _ from hix] at hI
  rw [show (⟨#[c]⟩ : ByteArray).data.toList = [c] from rfl] at e1 e2 e3
  rw [e1, e2, e3]
  have HI := Aside0.mk hI
  rw [hs1] at hroom
  have c1 : (0 : Int) ≤ ↑i := by omega
  have c2 : (↑i : Int) ≤ ↑s.size := by omega
  have c3 : (0 : Int) ≤ ↑i + 1 := by omega
  have c4 : (↑i + 1 : Int) ≤ ↑s.size := by omega
  have c5 : IntKind.i64.wrap ((i : Int) + 1) = (i : Int) + 1 := wrap_small _ (by omega) (by omega)
  clear hI hix e1 e2 e3
  go_enter Tryz.func62, Tryz.ntmps62
  go_wp2_with (go_at_call 86; refine HI.out.mono ?_; rintro e w' ⟨rfl, rfl⟩)
  have mixed : Tryz.prog.follows .mixedOrders = true := by kernel_rfl
  go_region_o
  go_wp2
  go_ret3
  exact ⟨rfl, 1, rfl⟩

set_option maxHeartbeats 8000000 in
set_option maxRecDepth 100000 in
theorem cut_one (s : ByteArray) (c : UInt8) (w : World) (hsz : s.size < 4294967281) :
  Calls Tryz.prog 48 #[.string s, .string ⟨#[c]⟩] w fun e w' => e = .returned (.tuple #[.string ⟨(Lib.cut s.data.toList [c]).1.toArray⟩, .string ⟨(Lib.cut s.data.toList [c]).2.1.toArray⟩, .bool (Lib.cut s.data.toList [c]).2.2]) ∧ ∃ n, w' = w.drewN n := by
 have h := cut_lite s c w hsz
 generalize (⟨(Lib.cut s.data.toList [c]).1.toArray⟩ : ByteArray) = x at *
 generalize (⟨(Lib.cut s.data.toList [c]).2.1.toArray⟩ : ByteArray) = y at *
 generalize (Lib.cut s.data.toList [c]).2.2 = z at *
 have HI := Aside0.mk h
 clear h
 go_enter Tryz.func48, Tryz.ntmps48
 go_wp2_with (go_at_call 62; refine HI.out.mono ?_; rintro e w' ⟨rfl, n, rfl⟩)
 go_ret3
 exact ⟨rfl, n, rfl⟩
/-! strings.IndexRune: a rune beyond ASCII is not among two ASCII bytes -/
set_option maxHeartbeats 8000000 in
set_option maxRecDepth 100000 in
theorem indexRune_high (r : Int) (w : World) (h0 : 128 ≤ r) (h1 : r ≤ 2147483647) :
  Calls Tryz.prog 63 #[.string ⟨#[43, 45]⟩, .int .i32 r] w fun e w' => e = .returned (.int .i64 (-1)) ∧ Below w.heap.size w w' := by
 have d1 : decide (r < 128) = false := decide_eq_false (by omega)
 have d0 : decide (0 ≤ r) = true := decide_eq_true (by omega)
 have hss : (⟨#[43, 45]⟩ : ByteArray).size = 2 := rfl
 by_cases hE : r = 65533
 ·subst hE
  go_enter Tryz.func63, Tryz.ntmps63
  go_wp2
  go_loopg [5, 6] 2 (fun g _ _ wx => ∃ i : Nat, i + g = 2 ∧ wx = w.iter ⟨#[43, 45]⟩ i)
  case atStart => exact ⟨0, rfl, rfl⟩
  case round =>
   obtain ⟨i, hig, rfl⟩ := hrel
   cases gk with
   | zero =>
    obtain rfl : i = 2 := by omega
    have hnx := fun ty => run_next_end (P := Tryz.prog) w ⟨#[43, 45]⟩ 2 ty (by decide)
    go_wp2
    go_ret
    exact ⟨rfl, (Below.refl _ _).alloc (Nat.le_refl _) _⟩
   | succ g =>
    have hi : i < (⟨#[43, 45]⟩ : ByteArray).size := by show i < 2; omega
    have hx : ((⟨#[43, 45]⟩ : ByteArray)[i]'hi).toNat = 43 ∨ ((⟨#[43, 45]⟩ : ByteArray)[i]'hi).toNat = 45 := by
     have : i = 0 ∨ i = 1 := by omega
     rcases this with rfl | rfl
     ·exact .inl rfl
     ·exact .inr rfl
    have hnx := fun ty => run_next_ascii (P := Tryz.prog) w ⟨#[43, 45]⟩ i ty hi (by omega)
    generalize ((⟨#[43, 45]⟩ : ByteArray)[i]'hi).toNat = b at *
    have hbe : ((b : Int) == 65533) = false := beq_eq_false_iff_ne.2 (by omega)
    go_wp2
    go_roundg g
    case measure => omega
    case rel => exact ⟨i + 1, by omega, rfl⟩
 ·have hb : (r == 65533) = false := beq_eq_false_iff_ne.2 hE
  have hV := Any.utf8_ValidRune { Tryz.lays153 with } r w
  cases hv : Lib.validRune r with
  | false =>
   rw [hv] at hV
   have HV := Aside0.mk hV
   clear hV
   go_enter Tryz.func63, Tryz.ntmps63
   go_wp2_with (go_at_call 88; refine HV.out.mono ?_; rintro e w' ⟨rfl, rfl⟩)
   go_ret
   exact ⟨rfl, Below.refl _ _⟩
  | true =>
   rw [hv] at hV
   have HV := Aside0.mk hV
   clear hV
   have hv2 : Utf8.valid r = true := by rw [validRune_eq]; exact hv
   obtain ⟨e2, e4, elast⟩ := encode_facts r hv2 h0
   by_cases h2 : (Utf8.encode r).size = 2
   ·have hlt : (Utf8.encode r).size - 1 < (Utf8.encode r).size := by omega
    have hl1 : (1 : Int) < ((Utf8.encode r).size : Int) := by omega
    have hix : ∀ h : (1 : Nat) < (Utf8.encode r).size, 128 ≤ ((Utf8.encode r)[1]'h).toNat := fun h => by
     have := elast hlt
     simpa only [show (Utf8.encode r).size - 1 = 1 from by omega] using this
    have hw : wrap64 (((Utf8.encode r).size : Int) - 1) = 1 := by rw [h2]; unfold wrap64; decide
    clear elast hlt
    go_enter Tryz.func63, Tryz.ntmps63
    go_wp2_with (go_at_call 88; refine HV.out.mono ?_; rintro e w' ⟨rfl, rfl⟩)
    go_step3
    go_wp2
    have h1n : 1 < (Utf8.encode r).size := by omega
    have hix1 := hix h1n
    clear hw hix
    generalize hrs : Utf8.encode r = rs at *
    go_loopg [9] 0 (fun _ v9 wx => v9 = .int .i64 1 ∧ wx = w')
    case atStart => exact ⟨rfl, rfl⟩
    case round =>
     obtain ⟨rfl, rfl⟩ := hrel
     have hc1 : (1 : Int) < (rs.size : Int) := by omega
     have hne : (((((⟨#[43, 45]⟩ : ByteArray)[1]'(by decide)).toNat : Nat) : Int) != ((rs[1]'h1n).toNat : Int)) = true := bne_iff_ne.2 (by have : ((⟨#[43, 45]⟩ : ByteArray)[1]'(by decide)).toNat = 45 := rfl; omega)
     have hIB : ∀ (s : ByteArray) (c : Int) (w : World), s.size = 0 → Calls Tryz.prog 87 #[.string s, .int .u8 c] w fun e w' => e = .returned (.int .i64 (-1)) ∧ w' = w := fun s c w hs => by
      have h := Any.strings_IndexByte { Tryz.lays153 with } s c w
      have hn : s.data.toList = [] := List.eq_nil_of_length_eq_zero (by rw [← Lib.size_eq]; exact hs)
      rw [hn] at h
      exact h
     have HIB := Aside0.mk hIB
     clear hIB
     have hw2 : IntKind.i64.wrap 2 = 2 := by decide
     have mixed : Tryz.prog.follows .mixedOrders = true := by kernel_rfl
     go_wp2
     go_step3
     go_wp2
     go_region_o
     go_wp2
     go_quiet ((refine (HIB.out _ _ _ rfl).mono ?_; rintro e w1 ⟨rfl, rfl⟩; exact ⟨rfl, _, rfl⟩))
     go_wp2
     rw [Exit.noGoto_ret]
     go_wp2
     try rw [Exit.noGoto_ret]
     try go_wp2
     go_ret
     exact ⟨rfl, by repeat (first | exact Below.refl _ _ | apply pw_below_drewN | apply below_drew)⟩
   ·have h3 : 2 < ((Utf8.encode r).size : Int) := by omega
    have hw : wrap64 (((Utf8.encode r).size : Int) - 1) = ((Utf8.encode r).size : Int) - 1 := by unfold wrap64; omega
    clear elast
    go_enter Tryz.func63, Tryz.ntmps63
    go_wp2_with (go_at_call 88; refine HV.out.mono ?_; rintro e w' ⟨rfl, rfl⟩)
    go_step3
    go_wp2
    clear hw
    generalize hrs : ((Utf8.encode r).size : Int) = n at *
    go_loopg [9] 0 (fun _ v9 wx => v9 = .int .i64 (n - 1) ∧ wx = w')
    case atStart => exact ⟨rfl, rfl⟩
    case round =>
     obtain ⟨rfl, rfl⟩ := hrel
     have hlt : ¬ (n - 1 < 2) := by omega
     go_wp2
     go_ret
     exact ⟨rfl, Below.refl _ _⟩
/-! strings.IndexAny at "+-", whatever the bytes of the text are -/
theorem get_of (s : ByteArray) (j : Nat) (b : UInt8) (h : s.data.toList[j]? = some b) : s.get! j = b := by
 obtain ⟨hj, hb⟩ := List.getElem?_eq_some_iff.1 h
 rw [Array.length_toList] at hj
 have h2 := get_at s j hj
 rw [Nat.add_zero] at h2
 rw [h2, ← hb, Array.getElem_toList]
 rfl
/-- What one step of a range over a text passes by, where it begins with a byte beyond ASCII, are such bytes. -/
theorem decode_skip (s : ByteArray) (pos : Nat) (h : pos < s.size) (ha : 128 ≤ (s[pos]'h).toNat) :
  pos + (Utf8.decode s pos).2 ≤ s.size ∧ ∀ j b, pos ≤ j → j < pos + (Utf8.decode s pos).2 → s.data.toList[j]? = some b → 128 ≤ b.toNat := by
 have h0 : ∀ b, s.data.toList[pos]? = some b → 128 ≤ b.toNat := fun b hb => by
  have := get_of s pos b hb
  have e := get_at s pos h
  rw [Nat.add_zero] at e
  rw [← this, e]; exact ha
 have one : pos + 1 ≤ s.size ∧ ∀ j b, pos ≤ j → j < pos + 1 → s.data.toList[j]? = some b → 128 ≤ b.toNat := ⟨by omega, fun j b h1 h2 hb => by
  obtain rfl : j = pos := by omega
  exact h0 b hb⟩
 have cont : ∀ k, (decide (pos + k < s.size) && (s.get! (pos + k)).toNat / 64 == 2) = true → pos + k < s.size ∧ ∀ b, s.data.toList[pos + k]? = some b → 128 ≤ b.toNat := fun k hk => by
  rw [Bool.and_eq_true] at hk
  refine ⟨of_decide_eq_true hk.1, fun b hb => ?_⟩
  have := get_of s _ b hb
  have h2 := eq_of_beq hk.2
  rw [this] at h2
  omega
 simp only [Utf8.decode, get_at s pos h, show ¬ (s[pos]'h).toNat < 128 from by omega, if_false]
 split
 ·rename_i hc
  have hc1 := cont 1 (by rw [Bool.and_eq_true] at hc; exact hc.2)
  split
  ·refine ⟨by omega, fun j b h1 h2 hb => ?_⟩
   have : j = pos ∨ j = pos + 1 := by omega
   rcases this with rfl | rfl
   ·exact h0 b hb
   ·exact hc1.2 b hb
  ·exact one
 ·split
  ·rename_i _ hc
   rw [Bool.and_eq_true, Bool.and_eq_true] at hc
   have hc1 := cont 1 hc.1.2
   have hc2 := cont 2 hc.2
   split
   ·refine ⟨by omega, fun j b h1 h2 hb => ?_⟩
    have : j = pos ∨ j = pos + 1 ∨ j = pos + 2 := by omega
    rcases this with rfl | rfl | rfl
    ·exact h0 b hb
    ·exact hc1.2 b hb
    ·exact hc2.2 b hb
   ·exact one
  ·split
   ·rename_i _ _ hc
    rw [Bool.and_eq_true, Bool.and_eq_true, Bool.and_eq_true] at hc
    have hc1 := cont 1 hc.1.1.2
    have hc2 := cont 2 hc.1.2
    have hc3 := cont 3 hc.2
    split
    ·refine ⟨by omega, fun j b h1 h2 hb => ?_⟩
     have : j = pos ∨ j = pos + 1 ∨ j = pos + 2 ∨ j = pos + 3 := by omega
     rcases this with rfl | rfl | rfl | rfl
     ·exact h0 b hb
     ·exact hc1.2 b hb
     ·exact hc2.2 b hb
     ·exact hc3.2 b hb
    ·exact one
   ·exact one
theorem contains_pm (b : UInt8) (h : 128 ≤ b.toNat) : ([43, 45] : List UInt8).contains b = false := by
 simp only [List.contains_cons, List.contains_nil, Bool.or_false, Bool.or_eq_false_iff]
 constructor <;> refine beq_eq_false_iff_ne.2 (fun e => ?_) <;> rw [e] at h <;> exact absurd h (by decide)
set_option maxHeartbeats 8000000 in
set_option maxRecDepth 1000000 in
theorem indexAny_pm_short (s : ByteArray) (w : World) (h8 : s.size ≤ 8) :
  Calls Tryz.prog 49 #[.string s, .string ⟨#[43, 45]⟩] w fun e w' => e = .returned (.int .i64 (Lib.indexAny s.data.toList [43, 45])) ∧ Below w.heap.size w w' := by
 have h8z : decide ((8 : Int) < (s.size : Int)) = false := decide_eq_false (by omega)
 have hSU : ∀ n w, Calls Tryz.prog 64 #[.int .i64 n] w fun e w' => e = .returned (.bool (decide ((8 : Int) < n))) ∧ w' = w := fun n w => Any.strings_shouldUseASCIISet { Tryz.lays153 with } n w
 have hIR : ∀ (r : Int) (w : World), 0 ≤ r → r < 128 → Calls Tryz.prog 63 #[.string ⟨#[43, 45]⟩, .int .i32 r] w fun e w' => e = .returned (.int .i64 (Lib.indexByte [43, 45] r.toNat.toUInt8)) ∧ w' = w := fun r w h0 h1 => Any.strings_IndexRune_ascii { Tryz.lays153 with } ⟨#[43, 45]⟩ r w h0 h1
 have HSU := Aside0.mk hSU
 have HIR := Aside0.mk hIR
 clear hSU hIR
 go_enter Tryz.func49, Tryz.ntmps49
 go_wp2_with (go_at_call 64; refine (HSU.out _ _).mono ?_; rintro e w' ⟨rfl, rfl⟩; rw [h8z])
 generalize hw0 : w'.heap.size = k0
 go_loopg [9, 10] s.size (fun g _ _ wx => ∃ i : Nat, s.size - i ≤ g ∧ i ≤ s.size ∧ wx.heap[k0]? = some (.stringIter s i) ∧ Below k0 w' wx ∧ Lib.NoAny s.data.toList [43, 45] i)
 case atStart => exact ⟨0, by omega, by omega, by subst hw0; exact World.iter_heap _ _ _, by subst hw0; exact (Below.refl _ _).alloc (Nat.le_refl _) _, Lib.NoAny.zero _ _⟩
 case round =>
  obtain ⟨i, hig, hil, hk, hB, hno⟩ := hrel
  have HN := Aside0.mk hno
  have HB := Aside0.mk hB
  clear hno hB
  by_cases hi : i < s.size
  ·by_cases hx : (s[i]'hi).toNat < 128
   ·have hnx := fun ty => Lib.run_next_ascii_at (P := Tryz.prog) wr k0 s i ty hk hi hx
    have hxl : s.data.toList[i]? = some (s[i]'hi) := Lib.data_getElem? s i hi
    have HK := Aside0.mk (Lib.iterAt_heap wr k0 s i (i + 1) hk)
    have HB1 := Aside0.mk (Lib.below_iterAt HB.out (Nat.le_refl _) s (i + 1))
    generalize s[i]'hi = x at *
    have HX := Aside0.mk hxl
    clear hxl hk
    generalize hwq : wr.iterAt k0 s (i + 1) = wq at *
    have hcon := Lib.contains_iff_indexByte [43, 45] x
    have hback : ((x.toNat : Int)).toNat.toUInt8 = x := by simp
    cases hin : ([43, 45] : List UInt8).contains x
    ·rw [hin] at hcon
     have hlt : ¬ ((0 : Int) ≤ Lib.indexByte [43, 45] x) := of_decide_eq_false hcon.symm
     clear hcon
     go_wp2_with (go_at_call 63; refine (HIR.out _ _ (by omega) (by omega)).mono ?_; rintro e w2 ⟨rfl, hw⟩; rw [hw, hback])
     go_roundg (s.size - (i + 1))
     case measure => omega
     case rel => exact ⟨i + 1, by omega, by omega, HK.out, HB1.out, HN.out.succ HX.out hin⟩
    ·rw [hin] at hcon
     have hge : (0 : Int) ≤ Lib.indexByte [43, 45] x := of_decide_eq_true hcon.symm
     clear hcon
     go_wp2_with (go_at_call 63; refine (HIR.out _ _ (by omega) (by omega)).mono ?_; rintro e w2 ⟨rfl, hw⟩; rw [hw, hback])
     go_ret
     exact ⟨by rw [Lib.indexAny_hit HN.out HX.out hin] <;> rfl, by rw [hw0]; exact HB1.out⟩
   ·have hx2 : 128 ≤ (s[i]'hi).toNat := by omega
    have hnx := fun ty => Lib.run_next_any_at (P := Tryz.prog) wr k0 s i ty hk hi
    obtain ⟨hsk, hsk2⟩ := decode_skip s i hi hx2
    obtain ⟨hd1, hd2⟩ := decode_high s i hi hx2
    have hd3 := decode_le s i
    generalize (Utf8.decode s i).1 = rn at *
    generalize (Utf8.decode s i).2 = wd at *
    have HK := Aside0.mk (Lib.iterAt_heap wr k0 s i (i + wd) hk)
    have HB1 := Aside0.mk (Lib.below_iterAt HB.out (Nat.le_refl _) s (i + wd))
    have hkz : k0 < (wr.iterAt k0 s (i + wd)).heap.size := blk_lt HK.out
    have HS := Aside0.mk hsk2
    clear hsk2 hk
    generalize hwq : wr.iterAt k0 s (i + wd) = wq at *
    have hhigh := fun W => indexRune_high rn W (by omega) (by omega)
    have HH := Aside0.mk hhigh
    clear hhigh
    go_wp2_with (go_at_call 63; refine (HH.out _).mono ?_; rintro e w2 ⟨rfl, hb2⟩; have HB2 := Aside0.mk hb2; clear hb2)
    go_roundg (s.size - (i + wd))
    case measure => omega
    case rel => exact ⟨i + wd, by omega, by omega, (HB2.out.block k0 hkz).trans HK.out, HB1.out.trans (HB2.out.mono (by omega)), fun j b hj hb => by
     by_cases hji : j < i
     ·exact HN.out j b hji hb
     ·exact contains_pm b (HS.out j b (by omega) hj hb)⟩
  ·obtain rfl : i = s.size := by omega
   have hnx := fun ty => Lib.run_next_end_at (P := Tryz.prog) wr k0 s s.size ty hk (by omega)
   go_wp2
   go_ret
   exact ⟨by rw [Lib.indexAny_none (by rw [← Lib.size_eq]; exact HN.out)] <;> rfl, by rw [hw0]; exact HB.out⟩
theorem indexAny_pm (s : ByteArray) (w : World) (hs : s.size < 4294967281) :
  Calls Tryz.prog 49 #[.string s, .string ⟨#[43, 45]⟩] w fun e w' => e = .returned (.int .i64 (Lib.indexAny s.data.toList [43, 45])) ∧ Below w.heap.size w w' := by
 by_cases h8 : s.size ≤ 8
 ·exact indexAny_pm_short s w h8
 ·have hz := zero_of_info (P := Tryz.prog) (t := 82) (v := .agg (Array.replicate 256 (.bool false))) (n := 256) (by kernel_rfl)
  refine (Any.strings_IndexAny_long Tryz.lays153 hz.1 hz.2 s ⟨#[43, 45]⟩ w (by decide) (by omega) hs (by decide) (fun j b hb => ?_)).mono fun e w' ⟨h1, h2⟩ => ⟨h1, ?_⟩
  ·have : j = 0 ∨ j = 1 ∨ 2 ≤ j := by omega
   rcases this with rfl | rfl | h
   ·obtain rfl : (43 : UInt8) = b := Option.some.inj hb
    decide
   ·obtain rfl : (45 : UInt8) = b := Option.some.inj hb
    decide
   ·rw [List.getElem?_eq_none (by simpa using h)] at hb; cases hb
  ·rw [h2]
   exact ((Below.refl _ _).alloc (Nat.le_refl _) _).alloc (by simp) _

/-! the numerals of an equation -/
def cutL (s : ByteArray) : ByteArray := ⟨(Lib.cut s.data.toList [61]).1.toArray⟩
def cutR (s : ByteArray) : ByteArray := ⟨(Lib.cut s.data.toList [61]).2.1.toArray⟩
def cutB (s : ByteArray) : Bool := (Lib.cut s.data.toList [61]).2.2
def signAt (s : ByteArray) : Int := Lib.indexAny (cutL s).data.toList [43, 45]
def numParts (s : ByteArray) : List ByteArray := [(cutL s).extract 0 (signAt s).toNat, (cutL s).extract ((signAt s).toNat + 1) (cutL s).size, cutR s]
/-- Where the first text lies that is no numeral; -1: nowhere. -/
def idxN : List ByteArray → Int → Option Int
 | [], _ => some (-1)
 | x :: xs, i => (impl_isNumeral.f x 3).bind fun b => if b = true then idxN xs (i + 1) else some i
set_option maxHeartbeats 8000000 in
set_option maxRecDepth 100000 in
theorem num_closure (x : ByteArray) (b : Bool) (w : World) (h : impl_isNumeral.f x 3 = some b) :
  Calls Tryz.prog 51 #[.string x] w fun e w' => e = .returned (.bool (!b)) ∧ Below w.heap.size w w' := by
 have hI := impl_isNumeral.calls x 3 b w h
 have HI := Aside0.mk hI
 clear hI h
 go_enter Tryz.func51, Tryz.ntmps51
 go_wp2_with (go_at_call 52; refine HI.out.mono ?_; rintro e w' ⟨rfl, hb⟩)
 go_ret
 exact ⟨rfl, hb⟩
set_option maxHeartbeats 8000000 in
set_option maxRecDepth 100000 in
theorem IndexFuncN (w : World) (A : Option Addr) (c : Nat) (l : List ByteArray) (r : Int) (hr : Kd.C Kd.string w A l.length l) (h : idxN l 0 = some r) :
  Calls Tryz.prog 38 #[.slice A l.length c, .func (.func 51) #[] #[]] w fun e w' => e = .returned (.int .i64 r) ∧ Below w.heap.size w w' := by
 have eg : ∀ args w, (callFunc 51 args).run Tryz.prog w = .ok (.enter 51 args) w := enters_of Tryz.func51 (by kernel_rfl) rfl
 have hl' : l.length ≤ 9223372036854775807 := Kd.C_max hr
 have HR := Aside0.mk hr
 have H0 := Aside0.mk h
 clear hr h
 go_enter Tryz.func38, Tryz.ntmps38
 go_wp2
 go_loopg [5, 8] l.length (fun gg _ s8 wr => ∃ kk : Nat, kk ≤ l.length ∧ l.length - kk ≤ gg ∧ s8 = .int .i64 kk ∧ Aside0 (Below w.heap.size w wr) ∧ Aside0 (idxN (l.drop kk) kk = some r))
 case atStart => exact ⟨0, Nat.zero_le _, by omega, rfl, ⟨Below.refl _ _⟩, ⟨by rw [List.drop_zero]; exact H0.out⟩⟩
 case round =>
  obtain ⟨kk, hkk, hg, rfl, HB, HI⟩ := hrel
  by_cases hlt : kk < l.length
  ·have hltz : (kk : Int) < (l.length : Int) := by omega
   obtain ⟨ad, hA, h0⟩ := Kd.at_string (Kd.C_below HR.out HB.out) (kk : Int) (by omega) (by omega)
   rw [Int.toNat_natCast] at h0
   subst hA
   have hx : rdOf ByteArray.empty l (kk : Int) = l[kk] := by unfold rdOf; rw [Int.toNat_natCast]; simp [List.getD_eq_getElem?_getD, hlt]
   rw [hx] at h0
   have HD := HI.out
   rw [List.drop_eq_getElem_cons hlt] at HD
   simp only [idxN] at HD
   clear HI hx
   generalize l[kk] = y at *
   obtain ⟨b, hb1, HD⟩ := Option.bind_eq_some_iff.mp HD
   have HCL := Aside0.mk (fun W => num_closure y b W hb1)
   clear hb1
   cases b with
   | false =>
    rw [if_neg (by decide)] at HD
    have HE := Aside0.mk (Option.some.inj HD)
    clear HD
    go_wp2_with (go_at_fn 51; (with_reducible refine (HCL.out _).mono ?_); rintro e w' ⟨rfl, hb⟩)
    go_ret
    exact ⟨by rw [HE.out] <;> rfl, HB.out.trans (hb.mono HB.out.size)⟩
   | true =>
    rw [if_pos rfl] at HD
    have HE := Aside0.mk HD
    clear HD
    go_wp2_with (go_at_fn 51; (with_reducible refine (HCL.out _).mono ?_); rintro e w' ⟨rfl, hb⟩)
    go_roundg (l.length - (kk + 1))
    case measure => omega
    case rel => exact ⟨kk + 1, by omega, by omega, by go_num, ⟨HB.out.trans (hb.mono HB.out.size)⟩, ⟨HE.out⟩⟩
  ·have hltz : ¬ (kk : Int) < (l.length : Int) := by omega
   have HE : Aside0 (r = -1) := ⟨(Option.some.inj ((by rw [List.drop_of_length_le (by omega)]; rfl : idxN (l.drop kk) kk = some (-1)).symm.trans HI.out)).symm⟩
   clear HI
   go_wp2
   go_ret
   exact ⟨by rw [HE.out] <;> rfl, HB.out⟩
set_option maxHeartbeats 8000000 in
set_option maxRecDepth 100000 in
theorem ContainsFuncN (w : World) (A : Option Addr) (c : Nat) (l : List ByteArray) (r : Int) (hr : Kd.C Kd.string w A l.length l) (h : idxN l 0 = some r) :
  Calls Tryz.prog 50 #[.slice A l.length c, .func (.func 51) #[] #[]] w fun e w' => e = .returned (.bool (decide (0 ≤ r))) ∧ Below w.heap.size w w' := by
 have hcall := IndexFuncN w A c l r hr h
 clear hr h
 go_enter Tryz.func50, Tryz.ntmps50
 go_wp2_with (go_at_call 38; refine hcall.mono ?_; rintro e w' ⟨rfl, hb⟩)
 go_ret
 exact ⟨rfl, hb⟩
theorem indexAny_lt (chars : List UInt8) : ∀ l : List UInt8, 0 ≤ Lib.indexAny l chars → Lib.indexAny l chars < l.length
 | [], h => by simp [Lib.indexAny] at h
 | b :: l, h => by
  have ih := indexAny_lt chars l
  have hg := Lib.indexAny_ge chars l
  simp only [Lib.indexAny] at h ⊢
  by_cases hc : chars.contains b = true
  ·rw [if_pos hc]; simp only [List.length_cons]; omega
  ·rw [if_neg hc] at h ⊢
   by_cases hm : (Lib.indexAny l chars == -1) = true
   ·rw [if_pos hm] at h; omega
   ·rw [if_neg hm] at h ⊢
    have : Lib.indexAny l chars ≠ -1 := fun e => hm (by rw [e]; rfl)
    have := ih (by omega)
    simp only [List.length_cons]; omega
theorem keepT {W wc w1 : World} (h : Below W.heap.size W wc ∧ True) (hb : Below wc.heap.size wc w1) : Below W.heap.size W w1 ∧ True := ⟨h.1.trans (hb.mono h.1.size), trivial⟩
/-- The three texts of an equation, its sign, and whether it is one. -/
def impl_numerals.f (a0 : ByteArray) : Option (List ByteArray × Int × Bool) :=
 if a0.size < 4294967281 then (if cutB a0 = true then (if 0 ≤ signAt a0 then (idxN (numParts a0) 0).bind fun i => some (numParts a0, bt (cutL a0) (signAt a0), !decide (0 ≤ i)) else some ([], 0, false)) else some ([], 0, false)) else none
set_option maxHeartbeats 8000000 in
set_option maxRecDepth 100000 in
theorem impl_numerals.calls (a0 : ByteArray) (r1 : List ByteArray) (r2 : Int) (r3 : Bool) (w : World) (h : impl_numerals.f a0 = some (r1, r2, r3)) :
  Calls Tryz.prog 37 #[.string a0] w fun e w' => ∃ v0_ : Value, e = .returned (.tuple #[v0_, .int .u8 r2, .bool r3]) ∧ Kd.R Kd.string 9 w' w.heap.size (fun _ => True) v0_ r1 ∧ Below w.heap.size w w' := by
 unfold impl_numerals.f at h
 by_cases hs : a0.size < 4294967281
 case neg => rw [if_neg hs] at h; cases h
 rw [if_pos hs] at h
 have hC := cut_one a0 61 w hs
 have hlen : (cutL a0).size ≤ a0.size := by
  show (Lib.cut a0.data.toList [61]).1.toArray.size ≤ a0.size
  rw [List.size_toArray, Lib.size_eq]
  unfold Lib.cut
  split
  ·simp only [List.length_take]; omega
  ·exact Nat.le_refl _
 have hI : ∀ W, Calls Tryz.prog 49 #[.string (cutL a0), .string ⟨#[43, 45]⟩] W fun e w' => e = .returned (.int .i64 (signAt a0)) ∧ Below W.heap.size W w' := fun W => indexAny_pm (cutL a0) W (by omega)
 have hlt := indexAny_lt [43, 45] (cutL a0).data.toList
 rw [← Lib.size_eq] at hlt
 rw [show Lib.indexAny (cutL a0).data.toList [43, 45] = signAt a0 from rfl] at hlt
 rw [show (⟨(Lib.cut a0.data.toList [61]).1.toArray⟩ : ByteArray) = cutL a0 from rfl, show (⟨(Lib.cut a0.data.toList [61]).2.1.toArray⟩ : ByteArray) = cutR a0 from rfl, show (Lib.cut a0.data.toList [61]).2.2 = cutB a0 from rfl] at hC
 unfold numParts at h
 generalize cutL a0 = L at *
 generalize cutR a0 = R at *
 generalize cutB a0 = ok at *
 generalize signAt a0 = k at *
 have HC := Aside0.mk hC
 have HI := Aside0.mk hI
 clear hC hI
 cases ok with
 | false =>
  rw [if_neg (by decide)] at h
  obtain ⟨rfl, h2⟩ := Prod.mk.inj (Option.some.inj h)
  obtain ⟨rfl, rfl⟩ := Prod.mk.inj h2
  clear h h2
  go_enter Tryz.func37, Tryz.ntmps37
  go_wp2_with (first | (go_at_call 48; refine HC.out.mono ?_; rintro e w1 ⟨rfl, nd, rfl⟩) | (go_at_call 49; refine (HI.out _).mono ?_; rintro e w2 ⟨rfl, hb⟩))
  go_ret3
  exact ⟨_, rfl, Kd.R_nil _ _ _ _ _, (pw_below_drewN (Below.refl _ _) _).trans hb⟩
 | true =>
  rw [if_pos rfl] at h
  by_cases hk : 0 ≤ k
  case neg =>
   rw [if_neg hk] at h
   obtain ⟨rfl, h2⟩ := Prod.mk.inj (Option.some.inj h)
   obtain ⟨rfl, rfl⟩ := Prod.mk.inj h2
   clear h h2
   have hk2 : k < 0 := by omega
   go_enter Tryz.func37, Tryz.ntmps37
   go_wp2_with (first | (go_at_call 48; refine HC.out.mono ?_; rintro e w1 ⟨rfl, nd, rfl⟩) | (go_at_call 49; refine (HI.out _).mono ?_; rintro e w2 ⟨rfl, hb⟩))
   go_ret3
   exact ⟨_, rfl, Kd.R_nil _ _ _ _ _, (pw_below_drewN (Below.refl _ _) _).trans hb⟩
  case pos =>
   rw [if_pos hk] at h
   obtain ⟨i, hi, h⟩ := Option.bind_eq_some_iff.mp h
   obtain ⟨e1, h2⟩ := Prod.mk.inj (Option.some.inj h)
   obtain ⟨e2, e3⟩ := Prod.mk.inj h2
   clear h h2
   have hlt2 := hlt hk
   clear hlt
   obtain ⟨m, rfl⟩ : ∃ m : Nat, k = m := ⟨k.toNat, by omega⟩
   rw [Int.toNat_natCast] at hi e1
   have hkz : ¬ ((m : Int) < 0) := by omega
   have c2 : (m : Int) ≤ (L.size : Int) := by omega
   have c3 : (m : Int) < (L.size : Int) := by omega
   have c4 : (0 : Int) ≤ (m : Int) + 1 := by omega
   have c5 : (m : Int) + 1 ≤ (L.size : Int) := by omega
   have mixed : Tryz.prog.follows .mixedOrders = true := by kernel_rfl
   have hbx : ∀ h : m < L.size, ((L[m]'h).toNat : Int) = bt L (m : Int) := bt_at L (m : Int)
   have HX := Aside0.mk hi
   have E1 := Aside0.mk e1
   have E2 := Aside0.mk e2
   have E3 := Aside0.mk e3
   clear hi e1 e2 e3
   go_enter Tryz.func37, Tryz.ntmps37
   go_wp2_with (first | (go_at_call 48; refine HC.out.mono ?_; rintro e w1 ⟨rfl, nd, rfl⟩) | (go_at_call 49; refine (HI.out _).mono ?_; rintro e w2 ⟨rfl, hb⟩))
   go_region_o
   go_wp2
   have hOwn := World.ownsRow_lit (base := w.heap.size) (e := 9) (size := 1) w2 #[.string (L.extract 0 m), .string (L.extract (m + 1) L.size), .string R] 3 (hb.size) (by decide) rfl
   have hR0 : Kd.R Kd.string 9 (w2.alloc (.cells #[.string (L.extract 0 m), .string (L.extract (m + 1) L.size), .string R] 9)).drew w.heap.size (fun _ => True) (.slice (some ⟨w2.heap.size, 0, none⟩) 3 3) [L.extract 0 m, L.extract (m + 1) L.size, R] := Kd.R_drew (Kd.R_of_own (xs := [L.extract 0 m, L.extract (m + 1) L.size, R]) hOwn (fun _ _ => trivial))
   have hB0 : Below w.heap.size w (w2.alloc (.cells #[.string (L.extract 0 m), .string (L.extract (m + 1) L.size), .string R] 9)).drew := below_drew (below_alloc ((pw_below_drewN (Below.refl _ _) _).trans hb) _)
   clear hOwn
   generalize (w2.alloc (.cells #[.string (L.extract 0 m), .string (L.extract (m + 1) L.size), .string R] 9)).drew = W at *
   generalize hls : [L.extract 0 m, L.extract (m + 1) L.size, R] = ls at *
   have hl3 : ls.length = 3 := by subst hls; rfl
   have HR0 := Aside0.mk hR0
   have HB0 := Aside0.mk hB0
   have hC0 := (Kd.R_reads' hR0).2.2
   have HCF := Aside0.mk (fun W1 (hW : Below W.heap.size W W1) => hl3 ▸ ContainsFuncN W1 _ 3 ls i (Kd.C_below hC0 hW) HX.out)
   clear hR0 hB0 hC0 hb
   go_region_held3 (fun w' => Below W.heap.size W w' ∧ True)
    (first | exact ⟨below_drew (Below.refl _ _), trivial⟩ | exact ⟨(below_drew (Below.refl _ _)).trans hb3, trivial⟩ | exact keepT (by assumption) hb3)
    ((go_at_call 50; refine (HCF.out _ (by first | exact below_drew (Below.refl _ _) | exact (by assumption : Below _ _ _ ∧ True).1)).mono ?_; rintro e w3 ⟨rfl, hb3⟩))
   all_goals
    go_wp2
    go_ret3
    refine ⟨.slice (some ⟨w2.heap.size, 0, none⟩) 3 3, ?_, ?_, HB0.out.trans (Below.mono (And.left (by assumption : Below _ _ _ ∧ True)) HB0.out.size)⟩
    ·rw [← E2.out, ← E3.out] <;> rfl
    ·rw [← E1.out]
     exact Kd.R_below HR0.out (And.left (by assumption : Below _ _ _ ∧ True))

/-! ### impl_IsEquation: function 27 -/
def impl_IsEquation.f (a0 : ByteArray) : Option (Bool) := (impl_numerals.f a0).bind fun bt281 => (some bt281.2.2)
set_option maxHeartbeats 8000000 in
set_option maxRecDepth 100000 in
theorem impl_IsEquation.calls (a0 : ByteArray) (r : Bool) (w : World) (h : impl_IsEquation.f a0 = some r) :
  Calls Tryz.prog 27 #[.string a0] w fun e w' => e = .returned (.bool r) ∧ Below w.heap.size w w' := by
 have HB := Aside0.mk (Below.refl w.heap.size w)
 have H : ((impl_numerals.f a0).bind fun bt281 => (some bt281.2.2)) = some r := h
 clear h
 replace H := Option.bind_eq_some_iff.mp H
 obtain ⟨⟨t281, t282, t283⟩, A20, H⟩ := H
 replace H : (some t283) = some r := H
 have A2 := Aside0.mk A20
 clear A20
 obtain rfl := Option.some.inj H
 go_enter Tryz.func27, Tryz.ntmps27
 go_wp2_with (first | ((with_reducible refine gate_callee (f := 37) rfl ?_); refine goesL_ (some 8) rfl rfl Tryz.func37 (by kernel_rfl) rfl #[.string a0] rfl (by (try simp only [List.map_toArray, List.map_cons, List.map_nil]); first | done | rfl | (simp only [List.length_drop, List.length_take]; rfl)) ?_; (with_reducible refine (impl_numerals.calls a0 t281 t282 t283 _ A2.out).mono ?_); rintro e w3 ⟨v284, rfl, ho0, hb⟩; refine ⟨_, rfl, ?_⟩; have n0_ := Aside0.mk (Kd.R_lower ho0 (below_size (by repeat (first | (with_reducible first | exact HB.out | apply below_alloc | apply pw_below_drewN | apply below_drew1) | exact HB.out)))); have n1_ := Aside0.mk (below_step (by repeat (first | (with_reducible first | exact HB.out | apply below_alloc | apply pw_below_drewN | apply below_drew1) | exact HB.out)) hb); clear HB; have HO285 := n0_; have HB := n1_; clear n0_ n1_; (try clear hb); (try clear hb2); (try clear hk); (try clear hi); (try clear ho0)))
 go_ret
 exact ⟨by first | rfl | (simp [errW_none, errW_some] <;> rfl) | (simp [*, errW_none, errW_some] <;> rfl), by repeat (first | (with_reducible first | exact HB.out | apply below_alloc | apply pw_below_drewN | apply below_drew1) | exact HB.out)⟩

/-! ### strconv_Atoi: function 43 -/
open Go.Shelf in
def Tryz.lays172_ren : Go.Shelf.Ren := ⟨fun | 172 => 43 | 244 => 59 | 245 => 60 | 247 => 81 | 279 => 82 | 280 => 83 | 281 => 84 | 282 => 85 | 287 => 103 | 316 => 104 | 171 => 106 | 205 => 105 | 321 => 113 | 322 => 114 | 243 => 115 | 246 => 120 | 283 => 121 | 284 => 122 | 285 => 123 | 286 => 124 | 129 => 80 | 317 => 125 | 318 => 126 | 319 => 127 | 320 => 128 | 337 => 129 | 338 => 130 | n => n, fun | 9 => 9 | 3 => 3 | 75 => 59 | 76 => 60 | 4 => 4 | 5 => 5 | 167 => 101 | 37 => 43 | 0 => 0 | 85 => 102 | 2 => 2 | 168 => 104 | 53 => 100 | 175 => 119 | 46 => 75 | 210 => 123 | 127 => 130 | 145 => 133 | 143 => 131 | 21 => 21 | 171 => 141 | 173 => 143 | 212 => 146 | 51 => 98 | 20 => 20 | 213 => 147 | 232 => 148 | 233 => 149 | 80 => 150 | n => n, fun | 15 => 1 | 16 => 2 | 17 => 6 | 18 => 7 | 19 => 8 | n => n⟩
open Go.Shelf in
theorem Tryz.lays172 : Go.Proofs.Lays.n172 Tryz.prog Tryz.lays172_ren := {
 mixed := by kernel_rfl,
 f129 := Tryz.func80.trans (congrArg some (by kernel_rfl)),
 f171 := Tryz.func106.trans (congrArg some (by kernel_rfl)),
 f172 := Tryz.func43.trans (congrArg some (by kernel_rfl)),
 f205 := Tryz.func105.trans (congrArg some (by kernel_rfl)),
 f243 := Tryz.func115.trans (congrArg some (by kernel_rfl)),
 f244 := Tryz.func59.trans (congrArg some (by kernel_rfl)),
 f245 := Tryz.func60.trans (congrArg some (by kernel_rfl)),
 f246 := Tryz.func120.trans (congrArg some (by kernel_rfl)),
 f247 := Tryz.func81.trans (congrArg some (by kernel_rfl)),
 f279 := Tryz.func82.trans (congrArg some (by kernel_rfl)),
 f280 := Tryz.func83.trans (congrArg some (by kernel_rfl)),
 f281 := Tryz.func84.trans (congrArg some (by kernel_rfl)),
 f282 := Tryz.func85.trans (congrArg some (by kernel_rfl)),
 f283 := Tryz.func121.trans (congrArg some (by kernel_rfl)),
 f284 := Tryz.func122.trans (congrArg some (by kernel_rfl)),
 f285 := Tryz.func123.trans (congrArg some (by kernel_rfl)),
 f286 := Tryz.func124.trans (congrArg some (by kernel_rfl)),
 f287 := Tryz.func103.trans (congrArg some (by kernel_rfl)),
 f316 := Tryz.func104.trans (congrArg some (by kernel_rfl)),
 f317 := Tryz.func125.trans (congrArg some (by kernel_rfl)),
 f318 := Tryz.func126.trans (congrArg some (by kernel_rfl)),
 f319 := Tryz.func127.trans (congrArg some (by kernel_rfl)),
 f320 := Tryz.func128.trans (congrArg some (by kernel_rfl)),
 f321 := Tryz.func113.trans (congrArg some (by kernel_rfl)),
 f322 := Tryz.func114.trans (congrArg some (by kernel_rfl)),
 f337 := Tryz.func129.trans (congrArg some (by kernel_rfl)),
 f338 := Tryz.func130.trans (congrArg some (by kernel_rfl)),
 t0 := Tryz.underlying0,
 a0 := Tryz.isAgg0,
 z0 := Tryz.sizeOf0,
 v0 := Tryz.zeroValue0,
 t2 := Tryz.underlying2,
 a2 := Tryz.isAgg2,
 z2 := Tryz.sizeOf2,
 v2 := Tryz.zeroValue2,
 t3 := Tryz.underlying3,
 a3 := Tryz.isAgg3,
 z3 := Tryz.sizeOf3,
 v3 := Tryz.zeroValue3,
 t4 := Tryz.underlying4,
 a4 := Tryz.isAgg4,
 z4 := Tryz.sizeOf4,
 v4 := Tryz.zeroValue4,
 t5 := Tryz.underlying5,
 a5 := Tryz.isAgg5,
 z5 := Tryz.sizeOf5,
 v5 := Tryz.zeroValue5,
 t9 := Tryz.underlying9,
 a9 := Tryz.isAgg9,
 z9 := Tryz.sizeOf9,
 v9 := Tryz.zeroValue9,
 t20 := Tryz.underlying20,
 a20 := Tryz.isAgg20,
 z20 := Tryz.sizeOf20,
 v20 := Tryz.zeroValue20,
 t21 := Tryz.underlying21,
 a21 := Tryz.isAgg21,
 z21 := Tryz.sizeOf21,
 v21 := Tryz.zeroValue21,
 t37 := Tryz.underlying43,
 a37 := Tryz.isAgg43,
 z37 := Tryz.sizeOf43,
 v37 := Tryz.zeroValue43,
 t46 := Tryz.underlying75,
 a46 := Tryz.isAgg75,
 z46 := Tryz.sizeOf75,
 v46 := Tryz.zeroValue75,
 t51 := Tryz.underlying98,
 a51 := Tryz.isAgg98,
 z51 := Tryz.sizeOf98,
 v51 := Tryz.zeroValue98,
 t53 := Tryz.underlying100,
 a53 := Tryz.isAgg100,
 z53 := Tryz.sizeOf100,
 v53 := Tryz.zeroValue100,
 t75 := Tryz.underlying59,
 a75 := Tryz.isAgg59,
 z75 := Tryz.sizeOf59,
 v75 := Tryz.zeroValue59,
 t76 := Tryz.underlying60,
 a76 := Tryz.isAgg60,
 z76 := Tryz.sizeOf60,
 v76 := Tryz.zeroValue60,
 t85 := Tryz.underlying102,
 a85 := Tryz.isAgg102,
 z85 := Tryz.sizeOf102,
 v85 := Tryz.zeroValue102,
 t127 := Tryz.underlying130,
 a127 := Tryz.isAgg130,
 z127 := Tryz.sizeOf130,
 v127 := Tryz.zeroValue130,
 t143 := Tryz.underlying131,
 a143 := Tryz.isAgg131,
 z143 := Tryz.sizeOf131,
 v143 := Tryz.zeroValue131,
 t145 := Tryz.underlying133,
 a145 := Tryz.isAgg133,
 z145 := Tryz.sizeOf133,
 v145 := Tryz.zeroValue133,
 t167 := Tryz.underlying101,
 a167 := Tryz.isAgg101,
 z167 := Tryz.sizeOf101,
 v167 := Tryz.zeroValue101,
 t168 := Tryz.underlying104,
 a168 := Tryz.isAgg104,
 z168 := Tryz.sizeOf104,
 v168 := Tryz.zeroValue104,
 t171 := Tryz.underlying141,
 a171 := Tryz.isAgg141,
 z171 := Tryz.sizeOf141,
 v171 := Tryz.zeroValue141,
 t173 := Tryz.underlying143,
 a173 := Tryz.isAgg143,
 z173 := Tryz.sizeOf143,
 v173 := Tryz.zeroValue143,
 t175 := Tryz.underlying119,
 a175 := Tryz.isAgg119,
 z175 := Tryz.sizeOf119,
 v175 := Tryz.zeroValue119,
 t210 := Tryz.underlying123,
 a210 := Tryz.isAgg123,
 z210 := Tryz.sizeOf123,
 v210 := Tryz.zeroValue123,
 t212 := Tryz.underlying146,
 a212 := Tryz.isAgg146,
 z212 := Tryz.sizeOf146,
 v212 := Tryz.zeroValue146,
 t213 := Tryz.underlying147,
 a213 := Tryz.isAgg147,
 z213 := Tryz.sizeOf147,
 t232 := Tryz.underlying148,
 a232 := Tryz.isAgg148,
 z232 := Tryz.sizeOf148,
 v232 := Tryz.zeroValue148,
 t233 := Tryz.underlying149,
 a233 := Tryz.isAgg149,
 z233 := Tryz.sizeOf149,
 v233 := Tryz.zeroValue149,
 g15 := by kernel_rfl,
 g16 := by kernel_rfl,
 g17 := by kernel_rfl,
 g18 := by kernel_rfl,
 g19 := by kernel_rfl }
def strconv_Atoi.f (a0 : ByteArray) : Option (Int × Option Int) := if a0.size ≤ 18 then (Go.Lib.atoi a0.data.toList).bind fun n => some (n, none) else none
theorem strconv_Atoi.calls (a0 : ByteArray) (r1 : Int) (r2 : Option Int) (w : World) (h : strconv_Atoi.f a0 = some (r1, r2)) :
  Calls Tryz.prog 43 #[.string a0] w fun e w' => e = .returned (.tuple #[.int .i64 r1, errW r2]) ∧ Below w.heap.size w w' := by
 unfold strconv_Atoi.f at h
 by_cases hs : a0.size ≤ 18
 ·rw [if_pos hs] at h
  obtain ⟨m, hm, h⟩ := Option.bind_eq_some_iff.mp h
  obtain ⟨rfl, rfl⟩ := Prod.mk.inj (Option.some.inj h)
  refine (Any.strconv_Atoi Tryz.lays172 a0 m hs hm w).mono fun e w' hq => ?_
  obtain ⟨rfl, t, rfl⟩ := hq
  exact ⟨rfl, rfl, rfl, rfl, by rw [Go.Lib.bytesWorld_size]; omega, fun i hi => Go.Lib.bytesWorld_at_old w _ t i (by omega)⟩
 ·rw [if_neg hs] at h; cases h

end Go.Proofs.YtmjlmmfhcabnfaaGreatDoor.Q
