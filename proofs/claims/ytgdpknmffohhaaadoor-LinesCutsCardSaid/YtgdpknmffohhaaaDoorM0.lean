/- Printed texts, and given ones, of the seat's functions, in one file. -/
import Derived.Test.YtgdpknmffohhaaaDoorProg
import Derived.Below
import Derived.Deep.Draws
import Derived.Deep.AppendLies
import Derived.Maps.AppendAt
import Derived.OwnWalk
import Derived.Laws.BytesArg
import Derived.Laws.MakeOwn
import Derived.Laws.OwnMore
import Derived.Deep.OwnRows
import Derived.Tactics
import Derived.Lib.ConvBytes
import Derived.Laws.Slices
import Derived.WalkKit
import Derived.KernelRfl
import Derived.RowKit3
import Derived.Deep.LoopGhost
import Derived.Deep.QuietTactic
import Derived.BigQuiet
import Derived.WideLaws
import Derived.Deep.DeepCutAuto
import Derived.Deep.CutBlock
import Derived.Deep.RegionHeld3
import Derived.Laws.Rows
import Derived.Lib.AppendStr
import Derived.ArgAppend
import Derived.Laws.IdiomCopy
import Derived.OrdersHeld
import Derived.Laws.BitsLemmas
import Derived.RowKit
import Derived.BigRegion
import Derived.Deep.RegionWith
import Derived.Laws.Cover4
import Derived.Laws.IdiomStrings
import Derived.Laws.RangeAny
import Derived.Lib.MapLaws
import Derived.Lib.OthersKept
import Derived.Lib.SliceRun
import Derived.LoopIn
import Derived.LoopN
import Derived.LoopNIn
import Derived.LoopTactic
import Derived.Maps.OwnIn
import Derived.OwnWalkIn
import Derived.RangeFuncBound
import Derived.RangeFuncBox
import Derived.RangeFuncCalls
import Derived.RangeFuncLeaves
import Derived.RangeFuncNested
import Derived.Shelf.Abstract
import Derived.Shelf.Strings.Cut
import Derived.Shelf.Strings.MapGrows
import Derived.Shelf.Unicode.ValidAny
import Derived.TacticsInMore
import Derived.Test.YtgdpknmffohhaaaDoorShelf
import Derived.WalkSpells
import Derived.Test.YtgdpknmffohhaaaDoorWWords
import Derived.Test.YtgdpknmffohhaaaDoorWLast
import Derived.Test.YtgdpknmffohhaaaDoorWTab
import Derived.Test.YtgdpknmffohhaaaDoorWQPut
import Derived.Test.YtgdpknmffohhaaaDoorWApart
import Derived.Test.YtgdpknmffohhaaaDoorWArr
import Derived.Test.YtgdpknmffohhaaaDoorWZeros
import Derived.Test.YtgdpknmffohhaaaDoorWFoot
import Derived.Test.YtgdpknmffohhaaaDoorWKept
import Derived.Test.YtgdpknmffohhaaaDoorWShare
import Derived.Test.YtgdpknmffohhaaaDoorWN
import Derived.Test.YtgdpknmffohhaaaDoorWEqStruct
import Derived.Test.YtgdpknmffohhaaaDoorWRepsOne
import Derived.Test.YtgdpknmffohhaaaDoorWGuard
import Derived.Test.YtgdpknmffohhaaaDoorWNEv
import Derived.Test.YtgdpknmffohhaaaDoorWMore
namespace Go.Proofs.YtgdpknmffohhaaaDoor.Pl
open Go.RowKit Go.Proofs.YtgdpknmffohhaaaDoorW.PrintWords Go.Proofs.YtgdpknmffohhaaaDoorW.PrintLast Go.Proofs.YtgdpknmffohhaaaDoorW.PrintMore
attribute [local go_sem] max2_int min2_int max_two min_two max_three min_three max_four min_four   -- for this text's walks alone
set_option linter.unusedVariables false
set_option linter.unusedSimpArgs false



def errW : Option Int → Value
  | none => .nilIface
  | some c => .iface 0 (.int .i64 c)
theorem errW_none : errW none = .nilIface := rfl
theorem errW_some (c : Int) : errW (some c) = .iface 0 (.int .i64 c) := rfl

theorem info3 : (Tryd.prog.info? 3).map (fun i => (i.zero, i.size, i.bytes)) = some (some (.int .i64 0), 1, 8) := by kernel_rfl
theorem info71 : (Tryd.prog.info? 71).map (fun i => (i.zero, i.size, i.bytes)) = some (some (.agg #[(.int .i32 0), (.int .i64 0), (.string ⟨#[]⟩)]), 3, 32) := by kernel_rfl
-- the values' own types
/-! #### struct type 71 -/
structure S71 where
  f0 : Int
  f1 : Int
  f2 : ByteArray
def z71 : S71 := ⟨(0 : Int), (0 : Int), (⟨#[]⟩ : ByteArray)⟩
def k71 : Kd S71 := Kd.iso (Kd.pair (Kd.int .i32) (Kd.pair (Kd.int .i64) Kd.string)) (fun x : S71 => (x.f0, x.f1, x.f2))
theorem k71_open {w : World} {x : S71} {cs : List Value} (h : k71.K w x cs) : cs = [.int .i32 x.f0, .int .i64 x.f1, .string x.f2] := by
  obtain ⟨_, _, rfl, rfl, ⟨_, _, rfl, rfl, rfl⟩⟩ := h
  exact rfl
theorem k71_mk (w : World) (x : S71)  : k71.K w x [.int .i32 x.f0, .int .i64 x.f1, .string x.f2] := ⟨[.int .i32 x.f0], [.int .i64 x.f1, .string x.f2], rfl, rfl, ⟨[.int .i64 x.f1], [.string x.f2], rfl, rfl, rfl⟩⟩
def rd_T71 (xs : List S71) (i : Int) : S71 := xs.getD i.toNat z71
theorem at_T71 {w : World} {A : Option Addr} {n : Nat} {xs : List S71} (h : Kd.C k71 w A n xs) (i : Int) (h0 : 0 ≤ i) (h1 : i < n) : ∃ ad , A = some ad ∧ w.cell? (ad.add (i.toNat * 3)) = some (.int .i32 (rd_T71 xs i).f0) ∧ w.cell? ⟨(ad.add (i.toNat * 3)).block, (ad.add (i.toNat * 3)).off + 1, none⟩ = some (.int .i64 (rd_T71 xs i).f1) ∧ w.cell? ⟨(ad.add (i.toNat * 3)).block, (ad.add (i.toNat * 3)).off + 2, none⟩ = some (.string (rd_T71 xs i).f2) := by
  obtain ⟨ad, c, e, _, hK, hc0⟩ := Kd.C_get h z71 i h0 h1
  have hc : ∀ j u, c[j]? = some u → w.cell? (ad.add (i.toNat * 3 + j)) = some u := hc0
  obtain rfl := k71_open hK
  exact ⟨ad, e, hc 0 _ rfl, by rw [← add_field _ _ 1 (by omega)]; exact hc 1 _ rfl, by rw [← add_field _ _ 2 (by omega)]; exact hc 2 _ rfl⟩

/-! #### struct type 103 -/
end Go.Proofs.YtgdpknmffohhaaaDoor.Pl

namespace Go.Proofs.YtgdpknmffohhaaaDoor.Pl
open Go.RowKit Go.Proofs.YtgdpknmffohhaaaDoorW.PrintWords Go.Proofs.YtgdpknmffohhaaaDoorW.PrintLast Go.Proofs.YtgdpknmffohhaaaDoorW.PrintMore
attribute [local go_sem] max2_int min2_int max_two min_two max_three min_three max_four min_four   -- for this text's walks alone
set_option linter.unusedVariables false
set_option linter.unusedSimpArgs false

/-! ### utf8_ValidRune: function 146 -/
def utf8_ValidRune.j0 : Nat → Int → Bool → Option (Bool)
  | 0, _, _ => none
  | k + 1, x0, x3 => if x3 = true then (some true) else (if 57343 < x0 then (if x0 ≤ 1114111 then (some true) else (some false)) else (some false))
def utf8_ValidRune.f (k : Nat) (a0 : Int) : Option (Bool) := if 0 ≤ a0 then (utf8_ValidRune.j0 k a0 (decide (a0 < 55296))) else (utf8_ValidRune.j0 k a0 false)
set_option maxHeartbeats 8000000 in
set_option maxRecDepth 100000 in
theorem utf8_ValidRune.calls (k : Nat) (a0 : Int) (r : Bool) (w : World) (h : utf8_ValidRune.f k a0 = some r) :
    Calls Tryd.prog 146 #[.int .i32 a0] w fun e w' => e = .returned (.bool r) ∧ Drawn0 w w' := by
  have H : (if 0 ≤ a0 then (utf8_ValidRune.j0 k a0 (decide (a0 < 55296))) else (utf8_ValidRune.j0 k a0 false)) = some r := h
  clear h
  have HC2 := Aside0.mk H
  clear H
  go_enter Tryd.func146, Tryd.ntmps146
  go_upto_region 1 with (fail)
  go_cut [3] (fun v3 wc => ∃ (kq : Nat) (x3_1 : Bool), v3 = .bool x3_1 ∧ Aside0 (utf8_ValidRune.j0 kq a0 x3_1 = some r) ∧ Aside0 (kq ≤ k) ∧ Drawn0 w wc)
  case first =>
    have H := HC2.out
    clear HC2
    by_cases c3 : 0 ≤ a0
    · rw [if_pos c3] at H
      have c3b0 : decide (0 ≤ a0) = true := decide_eq_true c3
      clear c3
      (first | rw [c3b0] | (simp only [i64_w, i32_w]; rw [c3b0]) | skip)
      have H' := Aside0.mk H
      clear H
      go_wp2
      go_meet
      case rel => exact ⟨_, (decide (a0 < 55296)), (by first | rfl | (simp; done) | (simp [*]; done)), H', ⟨by first | omega | exact Nat.le_refl _⟩, by repeat (first | exact Drawn0.refl _ | apply Drawn0.step)⟩
    · rw [if_neg c3] at H
      have c3b0 : decide (0 ≤ a0) = false := decide_eq_false c3
      clear c3
      (first | rw [c3b0] | (simp only [i64_w, i32_w]; rw [c3b0]) | skip)
      have H' := Aside0.mk H
      clear H
      go_wp2
      go_meet
      case rel => exact ⟨_, (false), (by first | rfl | (simp; done) | (simp [*]; done)), H', ⟨by first | omega | exact Nat.le_refl _⟩, by repeat (first | exact Drawn0.refl _ | apply Drawn0.step)⟩
  case rest =>
    clear HC2
    try clear c1
    try clear p2
    try clear c3
    try clear c3b0
    obtain ⟨kq, x3_1, rfl, HA, HJ1, ⟨mc1, rfl⟩⟩ := hcut
    cases kq with
    | zero => exact absurd HA.out (by simp [utf8_ValidRune.j0])
    | succ kj1 =>
      have H := HA.out
      clear HA
      simp only [utf8_ValidRune.j0] at H
      by_cases c4 : x3_1 = true
      · subst c4
        have H1 : (some true) = some r := by rw [if_pos rfl] at H; exact H
        clear H
        have H := H1
        clear H1
        obtain rfl := Option.some.inj H
        go_wp2
        go_ret
        exact ⟨by first | rfl | (simp; done) | (simp [*]; done), by repeat (first | exact Drawn0.refl _ | apply Drawn0.step)⟩
      · replace c4 := Bool.eq_false_iff.mpr c4
        subst c4
        have H1 : (if 57343 < a0 then (if a0 ≤ 1114111 then (some true) else (some false)) else (some false)) = some r := by rw [if_neg (show ¬ (false = true) by decide)] at H; exact H
        clear H
        have H := H1
        clear H1
        by_cases c5 : 57343 < a0
        · rw [if_pos c5] at H
          have c5b0 : decide (57343 < a0) = true := decide_eq_true c5
          clear c5
          by_cases c6 : a0 ≤ 1114111
          · rw [if_pos c6] at H
            have c6b0 : decide (a0 ≤ 1114111) = true := decide_eq_true c6
            clear c6
            obtain rfl := Option.some.inj H
            go_wp2
            go_ret
            exact ⟨by first | rfl | (simp; done) | (simp [*]; done), by repeat (first | exact Drawn0.refl _ | apply Drawn0.step)⟩
          · rw [if_neg c6] at H
            have c6b0 : decide (a0 ≤ 1114111) = false := decide_eq_false c6
            clear c6
            obtain rfl := Option.some.inj H
            go_wp2
            go_ret
            exact ⟨by first | rfl | (simp; done) | (simp [*]; done), by repeat (first | exact Drawn0.refl _ | apply Drawn0.step)⟩
        · rw [if_neg c5] at H
          have c5b0 : decide (57343 < a0) = false := decide_eq_false c5
          clear c5
          obtain rfl := Option.some.inj H
          go_wp2
          go_ret
          exact ⟨by first | rfl | (simp; done) | (simp [*]; done), by repeat (first | exact Drawn0.refl _ | apply Drawn0.step)⟩

end Go.Proofs.YtgdpknmffohhaaaDoor.Pl

namespace Go.Proofs.YtgdpknmffohhaaaDoor.Pl
open Go.RowKit Go.Proofs.YtgdpknmffohhaaaDoorW.PrintWords Go.Proofs.YtgdpknmffohhaaaDoorW.PrintLast Go.Proofs.YtgdpknmffohhaaaDoorW.PrintMore
attribute [local go_sem] max2_int min2_int max_two min_two max_three min_three max_four min_four   -- for this text's walks alone
set_option linter.unusedVariables false
set_option linter.unusedSimpArgs false

/-! ### chars_Class: function 133 -/
mutual
def chars_Class.j0 : Nat → Int → Bool → Option (Int)
  | 0, _, _ => none
  | k + 1, x0, x13 => if x13 = true then (some 2) else (if x0 = 65533 then (some 5) else (if x0 ≥ 97 then (chars_Class.j1 k x0 (decide (x0 ≤ 122))) else (chars_Class.j1 k x0 false)))
def chars_Class.j1 : Nat → Int → Bool → Option (Int)
  | 0, _, _ => none
  | k + 1, x0, x21 => if x21 = true then (some 3) else (if x0 ≥ 65 then (chars_Class.j2 k x0 (decide (x0 ≤ 90))) else (chars_Class.j2 k x0 false))
def chars_Class.j2 : Nat → Int → Bool → Option (Int)
  | 0, _, _ => none
  | k + 1, x0, x28 => if x28 = true then (some 3) else (if x0 ≥ 128 then (some 3) else (if x0 ≥ 48 then (if x0 ≤ 57 then (some 4) else (some 5)) else (some 5)))
end
def chars_Class.f (k : Nat) (a0 : Int) : Option (Int) := (utf8_ValidRune.f k a0).bind fun t102 => (if t102 = true then (if a0 < 32 then (some 1) else (if a0 = 127 then (some 1) else (if a0 = 32 then (chars_Class.j0 k a0 (a0 == 32)) else (chars_Class.j0 k a0 (a0 == 160))))) else (some 0))
set_option maxHeartbeats 8000000 in
set_option maxRecDepth 100000 in
theorem chars_Class.calls (k : Nat) (a0 : Int) (r : Int) (w : World) (h : chars_Class.f k a0 = some r) :
    Calls Tryd.prog 133 #[.int .i32 a0] w fun e w' => e = .returned (.int .i64 r) ∧ Drawn0 w w' := by
  have H : ((utf8_ValidRune.f k a0).bind fun t102 => (if t102 = true then (if a0 < 32 then (some 1) else (if a0 = 127 then (some 1) else (if a0 = 32 then (chars_Class.j0 k a0 (a0 == 32)) else (chars_Class.j0 k a0 (a0 == 160))))) else (some 0))) = some r := h
  clear h
  replace H := Option.bind_eq_some_iff.mp H
  obtain ⟨t102, A20, H⟩ := H
  replace H : (if t102 = true then (if a0 < 32 then (some 1) else (if a0 = 127 then (some 1) else (if a0 = 32 then (chars_Class.j0 k a0 (a0 == 32)) else (chars_Class.j0 k a0 (a0 == 160))))) else (some 0)) = some r := H
  have A2 := Aside0.mk A20
  clear A20
  by_cases c3 : t102 = true
  · subst c3
    have H1 : (if a0 < 32 then (some 1) else (if a0 = 127 then (some 1) else (if a0 = 32 then (chars_Class.j0 k a0 (a0 == 32)) else (chars_Class.j0 k a0 (a0 == 160))))) = some r := by rw [if_pos rfl] at H; exact H
    clear H
    have H := H1
    clear H1
    by_cases c4 : a0 < 32
    · rw [if_pos c4] at H
      have c4b0 : decide (a0 < 32) = true := decide_eq_true c4
      clear c4
      obtain rfl := Option.some.inj H
      go_enter Tryd.func133, Tryd.ntmps133
      go_wp2_with (first | ((with_reducible refine gate_callee (f := 146) rfl ?_); refine goesL_ (some 5) rfl rfl Tryd.func146 (by kernel_rfl) rfl #[.int .i32 a0] rfl (by (try simp only [List.map_toArray, List.map_cons, List.map_nil]); first | done | rfl | (simp only [List.length_drop, List.length_take]; rfl)) ?_; (with_reducible refine (utf8_ValidRune.calls k a0 true _ A2.out).mono ?_); rintro e w' ⟨rfl, ⟨nd, rfl⟩⟩; refine ⟨_, rfl, ?_⟩))
      go_ret
      exact ⟨by first | rfl | (simp; done) | (simp [*]; done), by repeat (first | exact Drawn0.refl _ | apply Drawn0.step)⟩
    · rw [if_neg c4] at H
      have c4b0 : decide (a0 < 32) = false := decide_eq_false c4
      clear c4
      by_cases c5 : a0 = 127
      · rw [if_pos c5] at H
        have c5b0 : (a0 == 127) = true := beq_iff_eq.mpr c5
        have c5b1 : (a0 != 127) = false := bne_eq_false_iff_eq.mpr c5
        clear c5
        obtain rfl := Option.some.inj H
        go_enter Tryd.func133, Tryd.ntmps133
        go_wp2_with (first | ((with_reducible refine gate_callee (f := 146) rfl ?_); refine goesL_ (some 5) rfl rfl Tryd.func146 (by kernel_rfl) rfl #[.int .i32 a0] rfl (by (try simp only [List.map_toArray, List.map_cons, List.map_nil]); first | done | rfl | (simp only [List.length_drop, List.length_take]; rfl)) ?_; (with_reducible refine (utf8_ValidRune.calls k a0 true _ A2.out).mono ?_); rintro e w' ⟨rfl, ⟨nd, rfl⟩⟩; refine ⟨_, rfl, ?_⟩))
        go_ret
        exact ⟨by first | rfl | (simp; done) | (simp [*]; done), by repeat (first | exact Drawn0.refl _ | apply Drawn0.step)⟩
      · rw [if_neg c5] at H
        have c5b0 : (a0 == 127) = false := beq_eq_false_iff_ne.mpr c5
        have c5b1 : (a0 != 127) = true := bne_iff_ne.mpr c5
        have HC6 := Aside0.mk H
        clear H
        go_enter Tryd.func133, Tryd.ntmps133
        go_upto_if 13 with (first | ((with_reducible refine gate_callee (f := 146) rfl ?_); refine goesL_ (some 5) rfl rfl Tryd.func146 (by kernel_rfl) rfl #[.int .i32 a0] rfl (by (try simp only [List.map_toArray, List.map_cons, List.map_nil]); first | done | rfl | (simp only [List.length_drop, List.length_take]; rfl)) ?_; (with_reducible refine (utf8_ValidRune.calls k a0 true _ A2.out).mono ?_); rintro e w' ⟨rfl, ⟨nd, rfl⟩⟩; refine ⟨_, rfl, ?_⟩))
        (try simp only [Act.put, List.setIfInBounds_toArray, List.set_cons_zero, List.set_cons_succ])
        go_cut [13] (fun v13 wc => ∃ (kq : Nat) (x13_5 : Bool), v13 = .bool x13_5 ∧ Aside0 (chars_Class.j0 kq a0 x13_5 = some r) ∧ Aside0 (kq ≤ k) ∧ Drawn0 w wc)
        case first =>
          have H := HC6.out
          clear HC6
          by_cases c7 : a0 = 32
          · rw [if_pos c7] at H
            have c7b0 : (a0 == 32) = true := beq_iff_eq.mpr c7
            have c7b1 : (a0 != 32) = false := bne_eq_false_iff_eq.mpr c7
            clear c7
            (first | rw [c7b0] | (simp only [i64_w, i32_w]; rw [c7b0]) | skip)
            have H' := Aside0.mk H
            clear H
            go_wp2
            go_meet
            case rel => exact ⟨_, ((a0 == 32)), (by first | rfl | (simp; done) | (simp [*]; done)), H', ⟨by first | omega | exact Nat.le_refl _⟩, by repeat (first | exact Drawn0.refl _ | apply Drawn0.step)⟩
          · rw [if_neg c7] at H
            have c7b0 : (a0 == 32) = false := beq_eq_false_iff_ne.mpr c7
            have c7b1 : (a0 != 32) = true := bne_iff_ne.mpr c7
            (first | rw [c7b0] | (simp only [i64_w, i32_w]; rw [c7b0]) | skip)
            have H' := Aside0.mk H
            clear H
            go_wp2
            go_meet
            case rel => exact ⟨_, ((a0 == 160)), (by first | rfl | (simp; done) | (simp [*]; done)), H', ⟨by first | omega | exact Nat.le_refl _⟩, by repeat (first | exact Drawn0.refl _ | apply Drawn0.step)⟩
        case rest =>
          clear HC6
          try clear c1
          try clear p2
          try clear c3
          try clear c4
          try clear c4b0
          try clear c5
          try clear c5b0
          try clear c5b1
          try clear c7
          try clear c7b0
          try clear c7b1
          obtain ⟨kq, x13_5, rfl, HA, HJ5, ⟨mc5, rfl⟩⟩ := hcut
          cases kq with
          | zero => exact absurd HA.out (by simp [chars_Class.j0])
          | succ kj5 =>
            have H := HA.out
            clear HA
            simp only [chars_Class.j0] at H
            by_cases c8 : x13_5 = true
            · subst c8
              have H1 : (some 2) = some r := by rw [if_pos rfl] at H; exact H
              clear H
              have H := H1
              clear H1
              obtain rfl := Option.some.inj H
              go_wp2
              go_ret
              exact ⟨by first | rfl | (simp; done) | (simp [*]; done), by repeat (first | exact Drawn0.refl _ | apply Drawn0.step)⟩
            · replace c8 := Bool.eq_false_iff.mpr c8
              subst c8
              have H1 : (if a0 = 65533 then (some 5) else (if a0 ≥ 97 then (chars_Class.j1 kj5 a0 (decide (a0 ≤ 122))) else (chars_Class.j1 kj5 a0 false))) = some r := by rw [if_neg (show ¬ (false = true) by decide)] at H; exact H
              clear H
              have H := H1
              clear H1
              by_cases c9 : a0 = 65533
              · rw [if_pos c9] at H
                have c9b0 : (a0 == 65533) = true := beq_iff_eq.mpr c9
                have c9b1 : (a0 != 65533) = false := bne_eq_false_iff_eq.mpr c9
                clear c9
                obtain rfl := Option.some.inj H
                go_wp2
                go_ret
                exact ⟨by first | rfl | (simp; done) | (simp [*]; done), by repeat (first | exact Drawn0.refl _ | apply Drawn0.step)⟩
              · rw [if_neg c9] at H
                have c9b0 : (a0 == 65533) = false := beq_eq_false_iff_ne.mpr c9
                have c9b1 : (a0 != 65533) = true := bne_iff_ne.mpr c9
                have HC10 := Aside0.mk H
                clear H
                go_upto_region 7 with (fail)
                go_cut [21] (fun v21 wc => ∃ (kq : Nat) (x21_9 : Bool), v21 = .bool x21_9 ∧ Aside0 (chars_Class.j1 kq a0 x21_9 = some r) ∧ Aside0 (kq ≤ kj5) ∧ Drawn0 w wc)
                case first =>
                  have H := HC10.out
                  clear HC10
                  by_cases c11 : a0 ≥ 97
                  · rw [if_pos c11] at H
                    have c11b0 : decide (97 ≤ a0) = true := decide_eq_true c11
                    clear c11
                    (first | rw [c11b0] | (simp only [i64_w, i32_w]; rw [c11b0]) | skip)
                    have H' := Aside0.mk H
                    clear H
                    go_wp2
                    go_meet
                    case rel => exact ⟨_, (decide (a0 ≤ 122)), (by first | rfl | (simp; done) | (simp [*]; done)), H', ⟨by have := HJ5.out; first | omega | exact Nat.le_refl _⟩, by repeat (first | exact Drawn0.refl _ | apply Drawn0.step)⟩
                  · rw [if_neg c11] at H
                    have c11b0 : decide (97 ≤ a0) = false := decide_eq_false c11
                    clear c11
                    (first | rw [c11b0] | (simp only [i64_w, i32_w]; rw [c11b0]) | skip)
                    have H' := Aside0.mk H
                    clear H
                    go_wp2
                    go_meet
                    case rel => exact ⟨_, (false), (by first | rfl | (simp; done) | (simp [*]; done)), H', ⟨by have := HJ5.out; first | omega | exact Nat.le_refl _⟩, by repeat (first | exact Drawn0.refl _ | apply Drawn0.step)⟩
                case rest =>
                  clear HC10
                  try clear c1
                  try clear p2
                  try clear c3
                  try clear c4
                  try clear c4b0
                  try clear c5
                  try clear c5b0
                  try clear c5b1
                  try clear c7
                  try clear c7b0
                  try clear c7b1
                  try clear c8
                  try clear c9
                  try clear c9b0
                  try clear c9b1
                  try clear c11
                  try clear c11b0
                  try clear p2
                  obtain ⟨kq, x21_9, rfl, HA, HJ9, ⟨mc9, rfl⟩⟩ := hcut
                  cases kq with
                  | zero => exact absurd HA.out (by simp [chars_Class.j1])
                  | succ kj9 =>
                    have H := HA.out
                    clear HA
                    simp only [chars_Class.j1] at H
                    by_cases c12 : x21_9 = true
                    · subst c12
                      have H1 : (some 3) = some r := by rw [if_pos rfl] at H; exact H
                      clear H
                      have H := H1
                      clear H1
                      obtain rfl := Option.some.inj H
                      go_wp2
                      go_ret
                      exact ⟨by first | rfl | (simp; done) | (simp [*]; done), by repeat (first | exact Drawn0.refl _ | apply Drawn0.step)⟩
                    · replace c12 := Bool.eq_false_iff.mpr c12
                      subst c12
                      have H1 : (if a0 ≥ 65 then (chars_Class.j2 kj9 a0 (decide (a0 ≤ 90))) else (chars_Class.j2 kj9 a0 false)) = some r := by rw [if_neg (show ¬ (false = true) by decide)] at H; exact H
                      clear H
                      have H := H1
                      clear H1
                      have HC13 := Aside0.mk H
                      clear H
                      go_upto_region 8 with (fail)
                      go_cut [28] (fun v28 wc => ∃ (kq : Nat) (x28_12 : Bool), v28 = .bool x28_12 ∧ Aside0 (chars_Class.j2 kq a0 x28_12 = some r) ∧ Aside0 (kq ≤ kj9) ∧ Drawn0 w wc)
                      case first =>
                        have H := HC13.out
                        clear HC13
                        by_cases c14 : a0 ≥ 65
                        · rw [if_pos c14] at H
                          have c14b0 : decide (65 ≤ a0) = true := decide_eq_true c14
                          clear c14
                          (first | rw [c14b0] | (simp only [i64_w, i32_w]; rw [c14b0]) | skip)
                          have H' := Aside0.mk H
                          clear H
                          go_wp2
                          go_meet
                          case rel => exact ⟨_, (decide (a0 ≤ 90)), (by first | rfl | (simp; done) | (simp [*]; done)), H', ⟨by have := HJ5.out; have := HJ9.out; first | omega | exact Nat.le_refl _⟩, by repeat (first | exact Drawn0.refl _ | apply Drawn0.step)⟩
                        · rw [if_neg c14] at H
                          have c14b0 : decide (65 ≤ a0) = false := decide_eq_false c14
                          clear c14
                          (first | rw [c14b0] | (simp only [i64_w, i32_w]; rw [c14b0]) | skip)
                          have H' := Aside0.mk H
                          clear H
                          go_wp2
                          go_meet
                          case rel => exact ⟨_, (false), (by first | rfl | (simp; done) | (simp [*]; done)), H', ⟨by have := HJ5.out; have := HJ9.out; first | omega | exact Nat.le_refl _⟩, by repeat (first | exact Drawn0.refl _ | apply Drawn0.step)⟩
                      case rest =>
                        clear HC13
                        try clear c1
                        try clear p2
                        try clear c3
                        try clear c4
                        try clear c4b0
                        try clear c5
                        try clear c5b0
                        try clear c5b1
                        try clear c7
                        try clear c7b0
                        try clear c7b1
                        try clear c8
                        try clear c9
                        try clear c9b0
                        try clear c9b1
                        try clear c11
                        try clear c11b0
                        try clear c12
                        try clear c13
                        try clear c14
                        try clear c14b0
                        try clear p2
                        obtain ⟨kq, x28_12, rfl, HA, HJ12, ⟨mc12, rfl⟩⟩ := hcut
                        cases kq with
                        | zero => exact absurd HA.out (by simp [chars_Class.j2])
                        | succ kj12 =>
                          have H := HA.out
                          clear HA
                          simp only [chars_Class.j2] at H
                          by_cases c15 : x28_12 = true
                          · subst c15
                            have H1 : (some 3) = some r := by rw [if_pos rfl] at H; exact H
                            clear H
                            have H := H1
                            clear H1
                            obtain rfl := Option.some.inj H
                            go_wp2
                            go_ret
                            exact ⟨by first | rfl | (simp; done) | (simp [*]; done), by repeat (first | exact Drawn0.refl _ | apply Drawn0.step)⟩
                          · replace c15 := Bool.eq_false_iff.mpr c15
                            subst c15
                            have H1 : (if a0 ≥ 128 then (some 3) else (if a0 ≥ 48 then (if a0 ≤ 57 then (some 4) else (some 5)) else (some 5))) = some r := by rw [if_neg (show ¬ (false = true) by decide)] at H; exact H
                            clear H
                            have H := H1
                            clear H1
                            by_cases c16 : a0 ≥ 128
                            · rw [if_pos c16] at H
                              have c16b0 : decide (128 ≤ a0) = true := decide_eq_true c16
                              clear c16
                              obtain rfl := Option.some.inj H
                              go_wp2
                              go_ret
                              exact ⟨by first | rfl | (simp; done) | (simp [*]; done), by repeat (first | exact Drawn0.refl _ | apply Drawn0.step)⟩
                            · rw [if_neg c16] at H
                              have c16b0 : decide (128 ≤ a0) = false := decide_eq_false c16
                              clear c16
                              by_cases c17 : a0 ≥ 48
                              · rw [if_pos c17] at H
                                have c17b0 : decide (48 ≤ a0) = true := decide_eq_true c17
                                clear c17
                                by_cases c18 : a0 ≤ 57
                                · rw [if_pos c18] at H
                                  have c18b0 : decide (a0 ≤ 57) = true := decide_eq_true c18
                                  clear c18
                                  obtain rfl := Option.some.inj H
                                  go_wp2
                                  go_ret
                                  exact ⟨by first | rfl | (simp; done) | (simp [*]; done), by repeat (first | exact Drawn0.refl _ | apply Drawn0.step)⟩
                                · rw [if_neg c18] at H
                                  have c18b0 : decide (a0 ≤ 57) = false := decide_eq_false c18
                                  clear c18
                                  obtain rfl := Option.some.inj H
                                  go_wp2
                                  go_ret
                                  exact ⟨by first | rfl | (simp; done) | (simp [*]; done), by repeat (first | exact Drawn0.refl _ | apply Drawn0.step)⟩
                              · rw [if_neg c17] at H
                                have c17b0 : decide (48 ≤ a0) = false := decide_eq_false c17
                                clear c17
                                obtain rfl := Option.some.inj H
                                go_wp2
                                go_ret
                                exact ⟨by first | rfl | (simp; done) | (simp [*]; done), by repeat (first | exact Drawn0.refl _ | apply Drawn0.step)⟩
  · replace c3 := Bool.eq_false_iff.mpr c3
    subst c3
    have H1 : (some 0) = some r := by rw [if_neg (show ¬ (false = true) by decide)] at H; exact H
    clear H
    have H := H1
    clear H1
    obtain rfl := Option.some.inj H
    go_enter Tryd.func133, Tryd.ntmps133
    go_wp2_with (first | ((with_reducible refine gate_callee (f := 146) rfl ?_); refine goesL_ (some 5) rfl rfl Tryd.func146 (by kernel_rfl) rfl #[.int .i32 a0] rfl (by (try simp only [List.map_toArray, List.map_cons, List.map_nil]); first | done | rfl | (simp only [List.length_drop, List.length_take]; rfl)) ?_; (with_reducible refine (utf8_ValidRune.calls k a0 false _ A2.out).mono ?_); rintro e w' ⟨rfl, ⟨nd, rfl⟩⟩; refine ⟨_, rfl, ?_⟩))
    go_ret
    exact ⟨by first | rfl | (simp; done) | (simp [*]; done), by repeat (first | exact Drawn0.refl _ | apply Drawn0.step)⟩

end Go.Proofs.YtgdpknmffohhaaaDoor.Pl

namespace Go.Proofs.YtgdpknmffohhaaaDoor.Pl
open Go.RowKit Go.Proofs.YtgdpknmffohhaaaDoorW.PrintWords Go.Proofs.YtgdpknmffohhaaaDoorW.PrintLast Go.Proofs.YtgdpknmffohhaaaDoorW.PrintMore
attribute [local go_sem] max2_int min2_int max_two min_two max_three min_three max_four min_four   -- for this text's walks alone
set_option linter.unusedVariables false
set_option linter.unusedSimpArgs false

/-! ### chars_May: function 114 -/
def chars_May.f (k : Nat) (a0 : Int) : Option (Bool) := (chars_Class.f k a0).bind fun t151 => (some (decide (t151 > 1)))
set_option maxHeartbeats 8000000 in
set_option maxRecDepth 100000 in
theorem chars_May.calls (k : Nat) (a0 : Int) (r : Bool) (w : World) (h : chars_May.f k a0 = some r) :
    Calls Tryd.prog 114 #[.int .i32 a0] w fun e w' => e = .returned (.bool r) ∧ Drawn0 w w' := by
  have H : ((chars_Class.f k a0).bind fun t151 => (some (decide (t151 > 1)))) = some r := h
  clear h
  replace H := Option.bind_eq_some_iff.mp H
  obtain ⟨t151, A20, H⟩ := H
  replace H : (some (decide (t151 > 1))) = some r := H
  have A2 := Aside0.mk A20
  clear A20
  obtain rfl := Option.some.inj H
  go_enter Tryd.func114, Tryd.ntmps114
  go_wp2_with (first | ((with_reducible refine gate_callee (f := 133) rfl ?_); refine goesL_ (some 4) rfl rfl Tryd.func133 (by kernel_rfl) rfl #[.int .i32 a0] rfl (by (try simp only [List.map_toArray, List.map_cons, List.map_nil]); first | done | rfl | (simp only [List.length_drop, List.length_take]; rfl)) ?_; (with_reducible refine (chars_Class.calls k a0 t151 _ A2.out).mono ?_); rintro e w' ⟨rfl, ⟨nd, rfl⟩⟩; refine ⟨_, rfl, ?_⟩))
  go_ret
  exact ⟨by first | rfl | (simp; done) | (simp [*]; done), by repeat (first | exact Drawn0.refl _ | apply Drawn0.step)⟩

end Go.Proofs.YtgdpknmffohhaaaDoor.Pl

namespace Go.Proofs.YtgdpknmffohhaaaDoor.Pl
open Go.RowKit Go.Proofs.YtgdpknmffohhaaaDoorW.PrintWords Go.Proofs.YtgdpknmffohhaaaDoorW.PrintLast Go.Proofs.YtgdpknmffohhaaaDoorW.PrintMore
attribute [local go_sem] max2_int min2_int max_two min_two max_three min_three max_four min_four   -- for this text's walks alone
set_option linter.unusedVariables false
set_option linter.unusedSimpArgs false

/-! ### attrs_Value: function 144 (given) -/
def mayR_ (c : Int) : Bool := decide (32 ≤ c ∧ c ≠ 127 ∧ (c < 55296 ∨ (57343 < c ∧ c ≤ 1114111)))
theorem class2_ (k : Nat) (c : Int) (b : Bool) : ∃ v, v > 1 ∧ chars_Class.j2 (k + 1) c b = some v := by
  simp only [chars_Class.j2]
  repeat' split
  all_goals exact ⟨_, by decide, rfl⟩
theorem class1_ (k : Nat) (c : Int) (b : Bool) : ∃ v, v > 1 ∧ chars_Class.j1 (k + 2) c b = some v := by
  simp only [chars_Class.j1]
  repeat' split
  · exact ⟨_, by decide, rfl⟩
  all_goals exact class2_ _ _ _
theorem class0_ (k : Nat) (c : Int) (b : Bool) : ∃ v, v > 1 ∧ chars_Class.j0 (k + 3) c b = some v := by
  simp only [chars_Class.j0]
  repeat' split
  · exact ⟨_, by decide, rfl⟩
  · exact ⟨_, by decide, rfl⟩
  all_goals exact class1_ _ _ _
theorem valid_is_ (c : Int) : utf8_ValidRune.f 20 c = some (decide (0 ≤ c ∧ (c < 55296 ∨ (57343 < c ∧ c ≤ 1114111)))) := by
  simp only [utf8_ValidRune.f, utf8_ValidRune.j0]
  by_cases h0 : 0 ≤ c
  · rw [if_pos h0]
    by_cases h1 : c < 55296
    · rw [decide_eq_true h1, if_pos rfl, decide_eq_true ⟨h0, .inl h1⟩]
    · rw [decide_eq_false h1, if_neg (by decide)]
      by_cases h2 : 57343 < c
      · rw [if_pos h2]
        by_cases h3 : c ≤ 1114111
        · rw [if_pos h3, decide_eq_true ⟨h0, .inr ⟨h2, h3⟩⟩]
        · rw [if_neg h3, decide_eq_false (by omega)]
      · rw [if_neg h2, decide_eq_false (by omega)]
  · rw [if_neg h0, if_neg (by decide)]
    by_cases h2 : 57343 < c
    · omega
    · rw [if_neg h2, decide_eq_false (by omega)]
theorem may_is_ (c : Int) : chars_May.f 20 c = some (mayR_ c) := by
  unfold chars_May.f chars_Class.f mayR_
  rw [valid_is_, Option.bind_some]
  by_cases hv : 0 ≤ c ∧ (c < 55296 ∨ (57343 < c ∧ c ≤ 1114111))
  · rw [decide_eq_true hv, if_pos rfl]
    by_cases h1 : c < 32
    · rw [if_pos h1, decide_eq_false (by omega)]
      rfl
    · rw [if_neg h1]
      by_cases h2 : c = 127
      · rw [if_pos h2, decide_eq_false (by omega)]
        rfl
      · rw [if_neg h2]
        have hy : decide (32 ≤ c ∧ c ≠ 127 ∧ (c < 55296 ∨ (57343 < c ∧ c ≤ 1114111))) = true := decide_eq_true ⟨by omega, h2, hv.2⟩
        rw [hy]
        by_cases h3 : c = 32
        · rw [if_pos h3]
          obtain ⟨v, h, e⟩ := class0_ 17 c (c == 32)
          rw [e, Option.bind_some, decide_eq_true h]
        · rw [if_neg h3]
          obtain ⟨v, h, e⟩ := class0_ 17 c (c == 160)
          rw [e, Option.bind_some, decide_eq_true h]
  · rw [decide_eq_false hv, if_neg (by decide), decide_eq_false (by omega)]
    rfl
def runesMay_ (s : ByteArray) : Nat → Nat → Bool
  | 0, _ => true
  | k + 1, pos => if pos < s.size then (if mayR_ ((Utf8.decode s pos).1 : Int) = true then runesMay_ s k (pos + (Utf8.decode s pos).2) else false) else true
def isValue_ (s : ByteArray) : Bool := runesMay_ s (s.size + 1) 0 && (decide (s.size ≤ 200) && Lib.validD s.data.toList)
set_option maxRecDepth 100000 in
set_option maxHeartbeats 4000000 in
theorem value_calls_ (s : ByteArray) (w : World) (hs : s.size ≤ 9223372036854775807) (hT : Lib.Utf8Tabs 0 1 w) :
    Calls Tryd.prog 144 #[.string s] w fun e w' => e = .returned (.bool (isValue_ s)) ∧ Below w.heap.size w w' := by
  obtain ⟨V, hV⟩ : ∃ V, runesMay_ s (s.size + 1) 0 = V := ⟨_, rfl⟩
  go_enter Tryd.func144, Tryd.ntmps144
  go_wp2
  go_loopg [2] (s.size + 1) (fun gk s2 wx => s2 = .bool false ∧ ∃ pos : Nat, wx.heap[w.heap.size]? = some (.stringIter s pos) ∧ Below w.heap.size w wx ∧ runesMay_ s gk pos = V ∧ pos ≤ s.size ∧ s.size < pos + gk)
  case atStart => exact ⟨rfl, 0, by simpa using World.iter_heap w s 0, (Below.refl _ w).alloc (Nat.le_refl _) _, hV, Nat.zero_le _, by omega⟩
  case round =>
    obtain ⟨rfl, pos, hit, hbw, hR, hps, hfu⟩ := hrel
    obtain ⟨g', rfl⟩ : ∃ g', gk = g' + 1 := ⟨gk - 1, by omega⟩
    simp only [runesMay_] at hR
    by_cases hlt : pos < s.size
    · have hnx : ∀ ty, (Instr.next (.pointer (some ⟨w.heap.size, 0, none⟩)) true ty).run Tryd.prog wr = _ := fun ty => Lib.run_next_any_at wr w.heap.size s pos ty hit hlt
      rw [if_pos hlt] at hR
      have hwd := Lib.width_pos s pos
      have hrl := Lib.rune_le s pos
      have hlen : s.data.toList.length = s.size := (Lib.size_eq s).symm
      have hne : s.data.toList.drop pos ≠ [] := by
        intro h0
        have := congrArg List.length h0
        rw [List.length_drop, hlen] at this
        simp at this
        omega
      have hwn : pos + (Utf8.decode s pos).2 ≤ s.size := by
        have := Lib.decodeL_le _ hne
        rw [Lib.decodeL_drop, List.length_drop, hlen] at this
        omega
      clear hne hlen
      obtain ⟨R, hR'⟩ : ∃ R, (Utf8.decode s pos).1 = R := ⟨_, rfl⟩
      obtain ⟨K, hK⟩ : ∃ K, (Utf8.decode s pos).2 = K := ⟨_, rfl⟩
      rw [hR', hK] at hnx hR
      rw [hK] at hwd hwn
      rw [hR'] at hrl
      clear hR' hK
      have hit2 := Lib.iterAt_heap wr w.heap.size s pos (pos + K) hit
      have hbw2 := Lib.below_iterAt hbw (k := w.heap.size) (by omega) s (pos + K)
      obtain ⟨W, hWd⟩ : ∃ W, wr.iterAt w.heap.size s (pos + K) = W := ⟨_, rfl⟩
      rw [hWd] at hnx hit2 hbw2
      clear hWd hit hbw
      have HC := Aside0.mk (fun x => chars_May.calls 20 (R : Int) (mayR_ (R : Int)) x (may_is_ (R : Int)))
      have HR := Aside0.mk hR
      clear hR
      cases hm : mayR_ (R : Int) with
      | true =>
        rw [hm] at HC HR
        go_wp2_with (go_at_call 114; refine (HC.out _).mono ?_; rintro e w' ⟨rfl, ⟨nd, rfl⟩⟩)
        go_roundg g'
        case measure => omega
        case rel => exact ⟨rfl, pos + K, hit2, pw_below_drewN hbw2 nd, by simpa using HR.out, hwn, by omega⟩
      | false =>
        rw [hm] at HC HR
        have hVf : V = false := by have := HR.out; rw [if_neg (by decide)] at this; exact this.symm
        go_wp2_with (go_at_call 114; refine (HC.out _).mono ?_; rintro e w' ⟨rfl, ⟨nd, rfl⟩⟩)
        go_ret
        exact ⟨by unfold isValue_; rw [hV, hVf]; rfl, pw_below_drewN hbw2 nd⟩
    · have hnx : ∀ ty, (Instr.next (.pointer (some ⟨w.heap.size, 0, none⟩)) true ty).run Tryd.prog wr = _ := fun ty => Lib.run_next_end_at wr w.heap.size s pos ty hit hlt
      rw [if_neg hlt] at hR
      have HV := Aside0.mk (show isValue_ s = (decide (s.size ≤ 200) && Lib.validD s.data.toList) by unfold isValue_; rw [hV, ← hR]; rfl)
      have HT := Aside0.mk (show Lib.Utf8Tabs 0 1 wr from ⟨fun c hc => (hbw.cell (World.block_lt_of_cell? w _ (hT.1 c hc))).trans (hT.1 c hc), fun i hi => ⟨(hbw.cell (World.block_lt_of_cell? w _ (hT.2 i hi).1)).trans (hT.2 i hi).1, (hbw.cell (World.block_lt_of_cell? w _ (hT.2 i hi).2)).trans (hT.2 i hi).2⟩⟩)
      have HB := Aside0.mk hbw
      clear hR hbw hT hV
      by_cases h2 : (s.size : Int) ≤ 200
      · have h2b : decide ((s.size : Int) ≤ 200) = true := decide_eq_true h2
        have h2c : decide (s.size ≤ 200) = true := decide_eq_true (by omega)
        rw [h2c] at HV
        clear h2
        go_wp2_with (go_at_call 156; refine (Tryd.utf8_ValidString s _ hs HT.out).mono ?_; rintro e w' ⟨rfl, hb⟩; have HB2 := Aside0.mk hb; clear hb)
        go_ret
        exact ⟨by rw [HV.out]; rfl, HB.out.trans (HB2.out.mono HB.out.size)⟩
      · have h2b : decide ((s.size : Int) ≤ 200) = false := decide_eq_false h2
        have h2c : decide (s.size ≤ 200) = false := decide_eq_false (by omega)
        rw [h2c] at HV
        clear h2
        go_wp2
        go_ret
        exact ⟨by rw [HV.out]; rfl, HB.out⟩

end Go.Proofs.YtgdpknmffohhaaaDoor.Pl

namespace Go.Proofs.YtgdpknmffohhaaaDoor.Pl
open Go.RowKit Go.Proofs.YtgdpknmffohhaaaDoorW.PrintWords Go.Proofs.YtgdpknmffohhaaaDoorW.PrintLast Go.Proofs.YtgdpknmffohhaaaDoorW.PrintMore
attribute [local go_sem] max2_int min2_int max_two min_two max_three min_three max_four min_four   -- for this text's walks alone
set_option linter.unusedVariables false
set_option linter.unusedSimpArgs false

/-! ### quillworkref01_Class: function 136 -/
mutual
def quillworkref01_Class.j0 : Nat → Int → Bool → Option (Int)
  | 0, _, _ => none
  | k + 1, x0, x16 => if x16 = true then (some 0) else (if x0 < 32 then (quillworkref01_Class.j1 k x0 true) else (quillworkref01_Class.j1 k x0 (x0 == 127)))
def quillworkref01_Class.j1 : Nat → Int → Bool → Option (Int)
  | 0, _, _ => none
  | k + 1, x0, x22 => if x22 = true then (some 1) else (if x0 = 32 then (quillworkref01_Class.j2 k x0 true) else (quillworkref01_Class.j2 k x0 (x0 == 160)))
def quillworkref01_Class.j2 : Nat → Int → Bool → Option (Int)
  | 0, _, _ => none
  | k + 1, x0, x28 => if x28 = true then (some 2) else (if x0 ≥ 97 then (if x0 ≤ 122 then (quillworkref01_Class.j3 k x0 true) else (if x0 ≥ 65 then (if x0 ≤ 90 then (quillworkref01_Class.j3 k x0 true) else (if x0 ≥ 128 then (quillworkref01_Class.j3 k x0 (x0 != 65533)) else (quillworkref01_Class.j3 k x0 false))) else (if x0 ≥ 128 then (quillworkref01_Class.j3 k x0 (x0 != 65533)) else (quillworkref01_Class.j3 k x0 false)))) else (if x0 ≥ 65 then (if x0 ≤ 90 then (quillworkref01_Class.j3 k x0 true) else (if x0 ≥ 128 then (quillworkref01_Class.j3 k x0 (x0 != 65533)) else (quillworkref01_Class.j3 k x0 false))) else (if x0 ≥ 128 then (quillworkref01_Class.j3 k x0 (x0 != 65533)) else (quillworkref01_Class.j3 k x0 false))))
def quillworkref01_Class.j3 : Nat → Int → Bool → Option (Int)
  | 0, _, _ => none
  | k + 1, x0, x50 => if x50 = true then (some 3) else (if x0 ≥ 48 then (if x0 ≤ 57 then (some 4) else (some 5)) else (some 5))
end
def quillworkref01_Class.f (k : Nat) (a0 : Int) : Option (Int) := if a0 < 0 then (quillworkref01_Class.j0 k a0 true) else (if a0 > 1114111 then (quillworkref01_Class.j0 k a0 true) else (if a0 ≥ 55296 then (quillworkref01_Class.j0 k a0 (decide (a0 ≤ 57343))) else (quillworkref01_Class.j0 k a0 false)))
theorem quillworkref01_Class.mono_l : ∀ k, (∀ y0 y1, LeO (quillworkref01_Class.j0 k y0 y1) (quillworkref01_Class.j0 (k + 1) y0 y1)) ∧ (∀ y0 y1, LeO (quillworkref01_Class.j1 k y0 y1) (quillworkref01_Class.j1 (k + 1) y0 y1)) ∧ (∀ y0 y1, LeO (quillworkref01_Class.j2 k y0 y1) (quillworkref01_Class.j2 (k + 1) y0 y1)) ∧ (∀ y0 y1, LeO (quillworkref01_Class.j3 k y0 y1) (quillworkref01_Class.j3 (k + 1) y0 y1))
  | 0 => ⟨fun _ _ r h => by simp [quillworkref01_Class.j0] at h, fun _ _ r h => by simp [quillworkref01_Class.j1] at h, fun _ _ r h => by simp [quillworkref01_Class.j2] at h, fun _ _ r h => by simp [quillworkref01_Class.j3] at h⟩
  | k + 1 => by
    obtain ⟨ih0, ih1, ih2, ih3⟩ := quillworkref01_Class.mono_l k
    refine ⟨?_, ?_, ?_, ?_⟩
    · intro y0 y1
      unfold quillworkref01_Class.j0
      repeat' first
      | (with_reducible exact ih0 _ _)
      | (with_reducible exact ih1 _ _)
      | (with_reducible exact ih2 _ _)
      | (with_reducible exact ih3 _ _)
      | (with_reducible exact LeO.refl _)
      | (with_reducible exact LeO.none _)
      | (with_reducible refine LeO.ite ?_ ?_)
      | (with_reducible refine LeO.bind ?_ (fun _ => ?_))
      | exact ih0 _ _
      | exact ih1 _ _
      | exact ih2 _ _
      | exact ih3 _ _
      | exact LeO.none _
      | refine LeO.ite ?_ ?_
      | refine LeO.bind ?_ (fun _ => ?_)
    · intro y0 y1
      unfold quillworkref01_Class.j1
      repeat' first
      | (with_reducible exact ih0 _ _)
      | (with_reducible exact ih1 _ _)
      | (with_reducible exact ih2 _ _)
      | (with_reducible exact ih3 _ _)
      | (with_reducible exact LeO.refl _)
      | (with_reducible exact LeO.none _)
      | (with_reducible refine LeO.ite ?_ ?_)
      | (with_reducible refine LeO.bind ?_ (fun _ => ?_))
      | exact ih0 _ _
      | exact ih1 _ _
      | exact ih2 _ _
      | exact ih3 _ _
      | exact LeO.none _
      | refine LeO.ite ?_ ?_
      | refine LeO.bind ?_ (fun _ => ?_)
    · intro y0 y1
      unfold quillworkref01_Class.j2
      repeat' first
      | (with_reducible exact ih0 _ _)
      | (with_reducible exact ih1 _ _)
      | (with_reducible exact ih2 _ _)
      | (with_reducible exact ih3 _ _)
      | (with_reducible exact LeO.refl _)
      | (with_reducible exact LeO.none _)
      | (with_reducible refine LeO.ite ?_ ?_)
      | (with_reducible refine LeO.bind ?_ (fun _ => ?_))
      | exact ih0 _ _
      | exact ih1 _ _
      | exact ih2 _ _
      | exact ih3 _ _
      | exact LeO.none _
      | refine LeO.ite ?_ ?_
      | refine LeO.bind ?_ (fun _ => ?_)
    · intro y0 y1
      unfold quillworkref01_Class.j3
      repeat' first
      | (with_reducible exact ih0 _ _)
      | (with_reducible exact ih1 _ _)
      | (with_reducible exact ih2 _ _)
      | (with_reducible exact ih3 _ _)
      | (with_reducible exact LeO.refl _)
      | (with_reducible exact LeO.none _)
      | (with_reducible refine LeO.ite ?_ ?_)
      | (with_reducible refine LeO.bind ?_ (fun _ => ?_))
      | exact ih0 _ _
      | exact ih1 _ _
      | exact ih2 _ _
      | exact ih3 _ _
      | exact LeO.none _
      | refine LeO.ite ?_ ?_
      | refine LeO.bind ?_ (fun _ => ?_)
theorem quillworkref01_Class.mono : ∀ a0 k, LeO (quillworkref01_Class.f k a0) (quillworkref01_Class.f (k + 1) a0) := by
  intro a0 k
  obtain ⟨ih0, ih1, ih2, ih3⟩ := quillworkref01_Class.mono_l k
  unfold quillworkref01_Class.f
  repeat' first
      | (with_reducible exact ih0 _ _)
      | (with_reducible exact ih1 _ _)
      | (with_reducible exact ih2 _ _)
      | (with_reducible exact ih3 _ _)
      | (with_reducible exact LeO.refl _)
      | (with_reducible exact LeO.none _)
      | (with_reducible refine LeO.ite ?_ ?_)
      | (with_reducible refine LeO.bind ?_ (fun _ => ?_))
      | exact ih0 _ _
      | exact ih1 _ _
      | exact ih2 _ _
      | exact ih3 _ _
      | exact LeO.none _
      | refine LeO.ite ?_ ?_
      | refine LeO.bind ?_ (fun _ => ?_)
set_option maxHeartbeats 8000000 in
set_option maxRecDepth 100000 in
theorem quillworkref01_Class.calls (k : Nat) (a0 : Int) (r : Int) (w : World) (h : quillworkref01_Class.f k a0 = some r) :
    Calls Tryd.prog 136 #[.int .i32 a0] w fun e w' => e = .returned (.int .i64 r) ∧ Drawn0 w w' := by
  have H : (if a0 < 0 then (quillworkref01_Class.j0 k a0 true) else (if a0 > 1114111 then (quillworkref01_Class.j0 k a0 true) else (if a0 ≥ 55296 then (quillworkref01_Class.j0 k a0 (decide (a0 ≤ 57343))) else (quillworkref01_Class.j0 k a0 false)))) = some r := h
  clear h
  have HC2 := Aside0.mk H
  clear H
  go_enter Tryd.func136, Tryd.ntmps136
  go_upto_region 1 with (fail)
  go_cut [16] (fun v16 wc => ∃ (kq : Nat) (x16_1 : Bool), v16 = .bool x16_1 ∧ Aside0 (quillworkref01_Class.j0 kq a0 x16_1 = some r) ∧ Aside0 (kq ≤ k) ∧ Drawn0 w wc)
  case first =>
    have H := HC2.out
    clear HC2
    by_cases c3 : a0 < 0
    · rw [if_pos c3] at H
      have c3b0 : decide (a0 < 0) = true := decide_eq_true c3
      clear c3
      (first | rw [c3b0] | (simp only [i64_w, i32_w]; rw [c3b0]) | skip)
      have H' := Aside0.mk H
      clear H
      go_wp2
      go_meet
      case rel => exact ⟨_, (true), (by first | rfl | (simp; done) | (simp [*]; done)), H', ⟨by first | omega | exact Nat.le_refl _⟩, by repeat (first | exact Drawn0.refl _ | apply Drawn0.step)⟩
    · rw [if_neg c3] at H
      have c3b0 : decide (a0 < 0) = false := decide_eq_false c3
      clear c3
      (first | rw [c3b0] | (simp only [i64_w, i32_w]; rw [c3b0]) | skip)
      by_cases c4 : a0 > 1114111
      · rw [if_pos c4] at H
        have c4b0 : decide (1114111 < a0) = true := decide_eq_true c4
        clear c4
        have H' := Aside0.mk H
        clear H
        go_wp2
        go_meet
        case rel => exact ⟨_, (true), (by first | rfl | (simp; done) | (simp [*]; done)), H', ⟨by first | omega | exact Nat.le_refl _⟩, by repeat (first | exact Drawn0.refl _ | apply Drawn0.step)⟩
      · rw [if_neg c4] at H
        have c4b0 : decide (1114111 < a0) = false := decide_eq_false c4
        clear c4
        by_cases c5 : a0 ≥ 55296
        · rw [if_pos c5] at H
          have c5b0 : decide (55296 ≤ a0) = true := decide_eq_true c5
          clear c5
          have H' := Aside0.mk H
          clear H
          go_wp2
          go_meet
          case rel => exact ⟨_, (decide (a0 ≤ 57343)), (by first | rfl | (simp; done) | (simp [*]; done)), H', ⟨by first | omega | exact Nat.le_refl _⟩, by repeat (first | exact Drawn0.refl _ | apply Drawn0.step)⟩
        · rw [if_neg c5] at H
          have c5b0 : decide (55296 ≤ a0) = false := decide_eq_false c5
          clear c5
          have H' := Aside0.mk H
          clear H
          go_wp2
          go_meet
          case rel => exact ⟨_, (false), (by first | rfl | (simp; done) | (simp [*]; done)), H', ⟨by first | omega | exact Nat.le_refl _⟩, by repeat (first | exact Drawn0.refl _ | apply Drawn0.step)⟩
  case rest =>
    clear HC2
    try clear c1
    try clear p2
    try clear c3
    try clear c3b0
    try clear c4
    try clear c4b0
    try clear c5
    try clear c5b0
    obtain ⟨kq, x16_1, rfl, HA, HJ1, ⟨mc1, rfl⟩⟩ := hcut
    cases kq with
    | zero => exact absurd HA.out (by simp [quillworkref01_Class.j0])
    | succ kj1 =>
      have H := HA.out
      clear HA
      simp only [quillworkref01_Class.j0] at H
      by_cases c6 : x16_1 = true
      · subst c6
        have H1 : (some 0) = some r := by rw [if_pos rfl] at H; exact H
        clear H
        have H := H1
        clear H1
        obtain rfl := Option.some.inj H
        go_wp2
        go_ret
        exact ⟨by first | rfl | (simp; done) | (simp [*]; done), by repeat (first | exact Drawn0.refl _ | apply Drawn0.step)⟩
      · replace c6 := Bool.eq_false_iff.mpr c6
        subst c6
        have H1 : (if a0 < 32 then (quillworkref01_Class.j1 kj1 a0 true) else (quillworkref01_Class.j1 kj1 a0 (a0 == 127))) = some r := by rw [if_neg (show ¬ (false = true) by decide)] at H; exact H
        clear H
        have H := H1
        clear H1
        have HC7 := Aside0.mk H
        clear H
        go_upto_region 3 with (fail)
        go_cut [22] (fun v22 wc => ∃ (kq : Nat) (x22_6 : Bool), v22 = .bool x22_6 ∧ Aside0 (quillworkref01_Class.j1 kq a0 x22_6 = some r) ∧ Aside0 (kq ≤ kj1) ∧ Drawn0 w wc)
        case first =>
          have H := HC7.out
          clear HC7
          by_cases c8 : a0 < 32
          · rw [if_pos c8] at H
            have c8b0 : decide (a0 < 32) = true := decide_eq_true c8
            clear c8
            (first | rw [c8b0] | (simp only [i64_w, i32_w]; rw [c8b0]) | skip)
            have H' := Aside0.mk H
            clear H
            go_wp2
            go_meet
            case rel => exact ⟨_, (true), (by first | rfl | (simp; done) | (simp [*]; done)), H', ⟨by have := HJ1.out; first | omega | exact Nat.le_refl _⟩, by repeat (first | exact Drawn0.refl _ | apply Drawn0.step)⟩
          · rw [if_neg c8] at H
            have c8b0 : decide (a0 < 32) = false := decide_eq_false c8
            clear c8
            (first | rw [c8b0] | (simp only [i64_w, i32_w]; rw [c8b0]) | skip)
            have H' := Aside0.mk H
            clear H
            go_wp2
            go_meet
            case rel => exact ⟨_, ((a0 == 127)), (by first | rfl | (simp; done) | (simp [*]; done)), H', ⟨by have := HJ1.out; first | omega | exact Nat.le_refl _⟩, by repeat (first | exact Drawn0.refl _ | apply Drawn0.step)⟩
        case rest =>
          clear HC7
          try clear c1
          try clear p2
          try clear c3
          try clear c3b0
          try clear c4
          try clear c4b0
          try clear c5
          try clear c5b0
          try clear c6
          try clear c8
          try clear c8b0
          try clear p2
          obtain ⟨kq, x22_6, rfl, HA, HJ6, ⟨mc6, rfl⟩⟩ := hcut
          cases kq with
          | zero => exact absurd HA.out (by simp [quillworkref01_Class.j1])
          | succ kj6 =>
            have H := HA.out
            clear HA
            simp only [quillworkref01_Class.j1] at H
            by_cases c9 : x22_6 = true
            · subst c9
              have H1 : (some 1) = some r := by rw [if_pos rfl] at H; exact H
              clear H
              have H := H1
              clear H1
              obtain rfl := Option.some.inj H
              go_wp2
              go_ret
              exact ⟨by first | rfl | (simp; done) | (simp [*]; done), by repeat (first | exact Drawn0.refl _ | apply Drawn0.step)⟩
            · replace c9 := Bool.eq_false_iff.mpr c9
              subst c9
              have H1 : (if a0 = 32 then (quillworkref01_Class.j2 kj6 a0 true) else (quillworkref01_Class.j2 kj6 a0 (a0 == 160))) = some r := by rw [if_neg (show ¬ (false = true) by decide)] at H; exact H
              clear H
              have H := H1
              clear H1
              have HC10 := Aside0.mk H
              clear H
              go_upto_region 5 with (fail)
              go_cut [28] (fun v28 wc => ∃ (kq : Nat) (x28_9 : Bool), v28 = .bool x28_9 ∧ Aside0 (quillworkref01_Class.j2 kq a0 x28_9 = some r) ∧ Aside0 (kq ≤ kj6) ∧ Drawn0 w wc)
              case first =>
                have H := HC10.out
                clear HC10
                by_cases c11 : a0 = 32
                · rw [if_pos c11] at H
                  have c11b0 : (a0 == 32) = true := beq_iff_eq.mpr c11
                  have c11b1 : (a0 != 32) = false := bne_eq_false_iff_eq.mpr c11
                  clear c11
                  (first | rw [c11b0] | (simp only [i64_w, i32_w]; rw [c11b0]) | skip)
                  have H' := Aside0.mk H
                  clear H
                  go_wp2
                  go_meet
                  case rel => exact ⟨_, (true), (by first | rfl | (simp; done) | (simp [*]; done)), H', ⟨by have := HJ1.out; have := HJ6.out; first | omega | exact Nat.le_refl _⟩, by repeat (first | exact Drawn0.refl _ | apply Drawn0.step)⟩
                · rw [if_neg c11] at H
                  have c11b0 : (a0 == 32) = false := beq_eq_false_iff_ne.mpr c11
                  have c11b1 : (a0 != 32) = true := bne_iff_ne.mpr c11
                  (first | rw [c11b0] | (simp only [i64_w, i32_w]; rw [c11b0]) | skip)
                  have H' := Aside0.mk H
                  clear H
                  go_wp2
                  go_meet
                  case rel => exact ⟨_, ((a0 == 160)), (by first | rfl | (simp; done) | (simp [*]; done)), H', ⟨by have := HJ1.out; have := HJ6.out; first | omega | exact Nat.le_refl _⟩, by repeat (first | exact Drawn0.refl _ | apply Drawn0.step)⟩
              case rest =>
                clear HC10
                try clear c1
                try clear p2
                try clear c3
                try clear c3b0
                try clear c4
                try clear c4b0
                try clear c5
                try clear c5b0
                try clear c6
                try clear c8
                try clear c8b0
                try clear c9
                try clear c11
                try clear c11b0
                try clear c11b1
                try clear p2
                obtain ⟨kq, x28_9, rfl, HA, HJ9, ⟨mc9, rfl⟩⟩ := hcut
                cases kq with
                | zero => exact absurd HA.out (by simp [quillworkref01_Class.j2])
                | succ kj9 =>
                  have H := HA.out
                  clear HA
                  simp only [quillworkref01_Class.j2] at H
                  by_cases c12 : x28_9 = true
                  · subst c12
                    have H1 : (some 2) = some r := by rw [if_pos rfl] at H; exact H
                    clear H
                    have H := H1
                    clear H1
                    obtain rfl := Option.some.inj H
                    go_wp2
                    go_ret
                    exact ⟨by first | rfl | (simp; done) | (simp [*]; done), by repeat (first | exact Drawn0.refl _ | apply Drawn0.step)⟩
                  · replace c12 := Bool.eq_false_iff.mpr c12
                    subst c12
                    have H1 : (if a0 ≥ 97 then (if a0 ≤ 122 then (quillworkref01_Class.j3 kj9 a0 true) else (if a0 ≥ 65 then (if a0 ≤ 90 then (quillworkref01_Class.j3 kj9 a0 true) else (if a0 ≥ 128 then (quillworkref01_Class.j3 kj9 a0 (a0 != 65533)) else (quillworkref01_Class.j3 kj9 a0 false))) else (if a0 ≥ 128 then (quillworkref01_Class.j3 kj9 a0 (a0 != 65533)) else (quillworkref01_Class.j3 kj9 a0 false)))) else (if a0 ≥ 65 then (if a0 ≤ 90 then (quillworkref01_Class.j3 kj9 a0 true) else (if a0 ≥ 128 then (quillworkref01_Class.j3 kj9 a0 (a0 != 65533)) else (quillworkref01_Class.j3 kj9 a0 false))) else (if a0 ≥ 128 then (quillworkref01_Class.j3 kj9 a0 (a0 != 65533)) else (quillworkref01_Class.j3 kj9 a0 false)))) = some r := by rw [if_neg (show ¬ (false = true) by decide)] at H; exact H
                    clear H
                    have H := H1
                    clear H1
                    have HC13 := Aside0.mk H
                    clear H
                    go_upto_region 7 with (fail)
                    go_cut [50] (fun v50 wc => ∃ (kq : Nat) (x50_12 : Bool), v50 = .bool x50_12 ∧ Aside0 (quillworkref01_Class.j3 kq a0 x50_12 = some r) ∧ Aside0 (kq ≤ kj9) ∧ Drawn0 w wc)
                    case first =>
                      have H := HC13.out
                      clear HC13
                      by_cases c14 : a0 ≥ 97
                      · rw [if_pos c14] at H
                        have c14b0 : decide (97 ≤ a0) = true := decide_eq_true c14
                        clear c14
                        (first | rw [c14b0] | (simp only [i64_w, i32_w]; rw [c14b0]) | skip)
                        by_cases c15 : a0 ≤ 122
                        · rw [if_pos c15] at H
                          have c15b0 : decide (a0 ≤ 122) = true := decide_eq_true c15
                          clear c15
                          have H' := Aside0.mk H
                          clear H
                          go_wp2
                          go_meet
                          case rel => exact ⟨_, (true), (by first | rfl | (simp; done) | (simp [*]; done)), H', ⟨by have := HJ1.out; have := HJ6.out; have := HJ9.out; first | omega | exact Nat.le_refl _⟩, by repeat (first | exact Drawn0.refl _ | apply Drawn0.step)⟩
                        · rw [if_neg c15] at H
                          have c15b0 : decide (a0 ≤ 122) = false := decide_eq_false c15
                          clear c15
                          by_cases c16 : a0 ≥ 65
                          · rw [if_pos c16] at H
                            have c16b0 : decide (65 ≤ a0) = true := decide_eq_true c16
                            clear c16
                            by_cases c17 : a0 ≤ 90
                            · rw [if_pos c17] at H
                              have c17b0 : decide (a0 ≤ 90) = true := decide_eq_true c17
                              clear c17
                              have H' := Aside0.mk H
                              clear H
                              go_wp2
                              go_meet
                              case rel => exact ⟨_, (true), (by first | rfl | (simp; done) | (simp [*]; done)), H', ⟨by have := HJ1.out; have := HJ6.out; have := HJ9.out; first | omega | exact Nat.le_refl _⟩, by repeat (first | exact Drawn0.refl _ | apply Drawn0.step)⟩
                            · rw [if_neg c17] at H
                              have c17b0 : decide (a0 ≤ 90) = false := decide_eq_false c17
                              clear c17
                              by_cases c18 : a0 ≥ 128
                              · rw [if_pos c18] at H
                                have c18b0 : decide (128 ≤ a0) = true := decide_eq_true c18
                                clear c18
                                have H' := Aside0.mk H
                                clear H
                                go_wp2
                                go_meet
                                case rel => exact ⟨_, ((a0 != 65533)), (by first | rfl | (simp; done) | (simp [*]; done)), H', ⟨by have := HJ1.out; have := HJ6.out; have := HJ9.out; first | omega | exact Nat.le_refl _⟩, by repeat (first | exact Drawn0.refl _ | apply Drawn0.step)⟩
                              · rw [if_neg c18] at H
                                have c18b0 : decide (128 ≤ a0) = false := decide_eq_false c18
                                clear c18
                                have H' := Aside0.mk H
                                clear H
                                go_wp2
                                go_meet
                                case rel => exact ⟨_, (false), (by first | rfl | (simp; done) | (simp [*]; done)), H', ⟨by have := HJ1.out; have := HJ6.out; have := HJ9.out; first | omega | exact Nat.le_refl _⟩, by repeat (first | exact Drawn0.refl _ | apply Drawn0.step)⟩
                          · rw [if_neg c16] at H
                            have c16b0 : decide (65 ≤ a0) = false := decide_eq_false c16
                            clear c16
                            by_cases c19 : a0 ≥ 128
                            · rw [if_pos c19] at H
                              have c19b0 : decide (128 ≤ a0) = true := decide_eq_true c19
                              clear c19
                              have H' := Aside0.mk H
                              clear H
                              go_wp2
                              go_meet
                              case rel => exact ⟨_, ((a0 != 65533)), (by first | rfl | (simp; done) | (simp [*]; done)), H', ⟨by have := HJ1.out; have := HJ6.out; have := HJ9.out; first | omega | exact Nat.le_refl _⟩, by repeat (first | exact Drawn0.refl _ | apply Drawn0.step)⟩
                            · rw [if_neg c19] at H
                              have c19b0 : decide (128 ≤ a0) = false := decide_eq_false c19
                              clear c19
                              have H' := Aside0.mk H
                              clear H
                              go_wp2
                              go_meet
                              case rel => exact ⟨_, (false), (by first | rfl | (simp; done) | (simp [*]; done)), H', ⟨by have := HJ1.out; have := HJ6.out; have := HJ9.out; first | omega | exact Nat.le_refl _⟩, by repeat (first | exact Drawn0.refl _ | apply Drawn0.step)⟩
                      · rw [if_neg c14] at H
                        have c14b0 : decide (97 ≤ a0) = false := decide_eq_false c14
                        clear c14
                        (first | rw [c14b0] | (simp only [i64_w, i32_w]; rw [c14b0]) | skip)
                        by_cases c20 : a0 ≥ 65
                        · rw [if_pos c20] at H
                          have c20b0 : decide (65 ≤ a0) = true := decide_eq_true c20
                          clear c20
                          by_cases c21 : a0 ≤ 90
                          · rw [if_pos c21] at H
                            have c21b0 : decide (a0 ≤ 90) = true := decide_eq_true c21
                            clear c21
                            have H' := Aside0.mk H
                            clear H
                            go_wp2
                            go_meet
                            case rel => exact ⟨_, (true), (by first | rfl | (simp; done) | (simp [*]; done)), H', ⟨by have := HJ1.out; have := HJ6.out; have := HJ9.out; first | omega | exact Nat.le_refl _⟩, by repeat (first | exact Drawn0.refl _ | apply Drawn0.step)⟩
                          · rw [if_neg c21] at H
                            have c21b0 : decide (a0 ≤ 90) = false := decide_eq_false c21
                            clear c21
                            by_cases c22 : a0 ≥ 128
                            · rw [if_pos c22] at H
                              have c22b0 : decide (128 ≤ a0) = true := decide_eq_true c22
                              clear c22
                              have H' := Aside0.mk H
                              clear H
                              go_wp2
                              go_meet
                              case rel => exact ⟨_, ((a0 != 65533)), (by first | rfl | (simp; done) | (simp [*]; done)), H', ⟨by have := HJ1.out; have := HJ6.out; have := HJ9.out; first | omega | exact Nat.le_refl _⟩, by repeat (first | exact Drawn0.refl _ | apply Drawn0.step)⟩
                            · rw [if_neg c22] at H
                              have c22b0 : decide (128 ≤ a0) = false := decide_eq_false c22
                              clear c22
                              have H' := Aside0.mk H
                              clear H
                              go_wp2
                              go_meet
                              case rel => exact ⟨_, (false), (by first | rfl | (simp; done) | (simp [*]; done)), H', ⟨by have := HJ1.out; have := HJ6.out; have := HJ9.out; first | omega | exact Nat.le_refl _⟩, by repeat (first | exact Drawn0.refl _ | apply Drawn0.step)⟩
                        · rw [if_neg c20] at H
                          have c20b0 : decide (65 ≤ a0) = false := decide_eq_false c20
                          clear c20
                          by_cases c23 : a0 ≥ 128
                          · rw [if_pos c23] at H
                            have c23b0 : decide (128 ≤ a0) = true := decide_eq_true c23
                            clear c23
                            have H' := Aside0.mk H
                            clear H
                            go_wp2
                            go_meet
                            case rel => exact ⟨_, ((a0 != 65533)), (by first | rfl | (simp; done) | (simp [*]; done)), H', ⟨by have := HJ1.out; have := HJ6.out; have := HJ9.out; first | omega | exact Nat.le_refl _⟩, by repeat (first | exact Drawn0.refl _ | apply Drawn0.step)⟩
                          · rw [if_neg c23] at H
                            have c23b0 : decide (128 ≤ a0) = false := decide_eq_false c23
                            clear c23
                            have H' := Aside0.mk H
                            clear H
                            go_wp2
                            go_meet
                            case rel => exact ⟨_, (false), (by first | rfl | (simp; done) | (simp [*]; done)), H', ⟨by have := HJ1.out; have := HJ6.out; have := HJ9.out; first | omega | exact Nat.le_refl _⟩, by repeat (first | exact Drawn0.refl _ | apply Drawn0.step)⟩
                    case rest =>
                      clear HC13
                      try clear c1
                      try clear c2
                      try clear p2
                      try clear c3
                      try clear c3b0
                      try clear c4
                      try clear c4b0
                      try clear c5
                      try clear c5b0
                      try clear c6
                      try clear c8
                      try clear c8b0
                      try clear c9
                      try clear c11
                      try clear c11b0
                      try clear c11b1
                      try clear c12
                      try clear c13
                      try clear c14
                      try clear c14b0
                      try clear c15
                      try clear c15b0
                      try clear c16
                      try clear c16b0
                      try clear c17
                      try clear c17b0
                      try clear c18
                      try clear c18b0
                      try clear c19
                      try clear c19b0
                      try clear c20
                      try clear c20b0
                      try clear c21
                      try clear c21b0
                      try clear c22
                      try clear c22b0
                      try clear c23
                      try clear c23b0
                      try clear p2
                      obtain ⟨kq, x50_12, rfl, HA, HJ12, ⟨mc12, rfl⟩⟩ := hcut
                      cases kq with
                      | zero => exact absurd HA.out (by simp [quillworkref01_Class.j3])
                      | succ kj12 =>
                        have H := HA.out
                        clear HA
                        simp only [quillworkref01_Class.j3] at H
                        by_cases c24 : x50_12 = true
                        · subst c24
                          have H1 : (some 3) = some r := by rw [if_pos rfl] at H; exact H
                          clear H
                          have H := H1
                          clear H1
                          obtain rfl := Option.some.inj H
                          go_wp2
                          go_ret
                          exact ⟨by first | rfl | (simp; done) | (simp [*]; done), by repeat (first | exact Drawn0.refl _ | apply Drawn0.step)⟩
                        · replace c24 := Bool.eq_false_iff.mpr c24
                          subst c24
                          have H1 : (if a0 ≥ 48 then (if a0 ≤ 57 then (some 4) else (some 5)) else (some 5)) = some r := by rw [if_neg (show ¬ (false = true) by decide)] at H; exact H
                          clear H
                          have H := H1
                          clear H1
                          by_cases c25 : a0 ≥ 48
                          · rw [if_pos c25] at H
                            have c25b0 : decide (48 ≤ a0) = true := decide_eq_true c25
                            clear c25
                            by_cases c26 : a0 ≤ 57
                            · rw [if_pos c26] at H
                              have c26b0 : decide (a0 ≤ 57) = true := decide_eq_true c26
                              clear c26
                              obtain rfl := Option.some.inj H
                              go_wp2
                              go_ret
                              exact ⟨by first | rfl | (simp; done) | (simp [*]; done), by repeat (first | exact Drawn0.refl _ | apply Drawn0.step)⟩
                            · rw [if_neg c26] at H
                              have c26b0 : decide (a0 ≤ 57) = false := decide_eq_false c26
                              clear c26
                              obtain rfl := Option.some.inj H
                              go_wp2
                              go_ret
                              exact ⟨by first | rfl | (simp; done) | (simp [*]; done), by repeat (first | exact Drawn0.refl _ | apply Drawn0.step)⟩
                          · rw [if_neg c25] at H
                            have c25b0 : decide (48 ≤ a0) = false := decide_eq_false c25
                            clear c25
                            obtain rfl := Option.some.inj H
                            go_wp2
                            go_ret
                            exact ⟨by first | rfl | (simp; done) | (simp [*]; done), by repeat (first | exact Drawn0.refl _ | apply Drawn0.step)⟩

end Go.Proofs.YtgdpknmffohhaaaDoor.Pl

namespace Go.Proofs.YtgdpknmffohhaaaDoor.Pl
open Go.RowKit Go.Proofs.YtgdpknmffohhaaaDoorW.PrintWords Go.Proofs.YtgdpknmffohhaaaDoorW.PrintLast Go.Proofs.YtgdpknmffohhaaaDoorW.PrintMore
attribute [local go_sem] max2_int min2_int max_two min_two max_three min_three max_four min_four   -- for this text's walks alone
set_option linter.unusedVariables false
set_option linter.unusedSimpArgs false

/-! ### quillworkref01_May: function 124 -/
def quillworkref01_May.f (k : Nat) (a0 : Int) : Option (Bool) := (quillworkref01_Class.f k a0).bind fun t206 => (some (decide (t206 ≥ 2)))
theorem quillworkref01_May.mono : ∀ a0 k, LeO (quillworkref01_May.f k a0) (quillworkref01_May.f (k + 1) a0) := by
  intro a0 k
  unfold quillworkref01_May.f
  repeat' first
      | (with_reducible exact quillworkref01_Class.mono _ _)
      | (with_reducible exact LeO.refl _)
      | (with_reducible exact LeO.none _)
      | (with_reducible refine LeO.ite ?_ ?_)
      | (with_reducible refine LeO.bind ?_ (fun _ => ?_))
      | exact quillworkref01_Class.mono _ _
      | exact LeO.none _
      | refine LeO.ite ?_ ?_
      | refine LeO.bind ?_ (fun _ => ?_)
set_option maxHeartbeats 8000000 in
set_option maxRecDepth 100000 in
theorem quillworkref01_May.calls (k : Nat) (a0 : Int) (r : Bool) (w : World) (h : quillworkref01_May.f k a0 = some r) :
    Calls Tryd.prog 124 #[.int .i32 a0] w fun e w' => e = .returned (.bool r) ∧ Drawn0 w w' := by
  have H : ((quillworkref01_Class.f k a0).bind fun t206 => (some (decide (t206 ≥ 2)))) = some r := h
  clear h
  replace H := Option.bind_eq_some_iff.mp H
  obtain ⟨t206, A20, H⟩ := H
  replace H : (some (decide (t206 ≥ 2))) = some r := H
  have A2 := Aside0.mk A20
  clear A20
  obtain rfl := Option.some.inj H
  go_enter Tryd.func124, Tryd.ntmps124
  go_wp2_with (first | ((with_reducible refine gate_callee (f := 136) rfl ?_); refine goesL_ (some 4) rfl rfl Tryd.func136 (by kernel_rfl) rfl #[.int .i32 a0] rfl (by (try simp only [List.map_toArray, List.map_cons, List.map_nil]); first | done | rfl | (simp only [List.length_drop, List.length_take]; rfl)) ?_; (with_reducible refine (quillworkref01_Class.calls k a0 t206 _ A2.out).mono ?_); rintro e w' ⟨rfl, ⟨nd, rfl⟩⟩; refine ⟨_, rfl, ?_⟩))
  go_ret
  exact ⟨by first | rfl | (simp; done) | (simp [*]; done), by repeat (first | exact Drawn0.refl _ | apply Drawn0.step)⟩

end Go.Proofs.YtgdpknmffohhaaaDoor.Pl

namespace Go.Proofs.YtgdpknmffohhaaaDoor.Pl
open Go.RowKit Go.Proofs.YtgdpknmffohhaaaDoorW.PrintWords Go.Proofs.YtgdpknmffohhaaaDoorW.PrintLast Go.Proofs.YtgdpknmffohhaaaDoorW.PrintMore
attribute [local go_sem] max2_int min2_int max_two min_two max_three min_three max_four min_four   -- for this text's walks alone
set_option linter.unusedVariables false
set_option linter.unusedSimpArgs false

/-! ### quillworkref03_Value: function 145 (given) -/
def runesL_ (s : ByteArray) : Nat → Nat → List Int
  | 0, _ => []
  | k + 1, pos => if pos < s.size then ((Utf8.decode s pos).1 : Int) :: runesL_ s k (pos + (Utf8.decode s pos).2) else []
theorem runesFrom_eq_ (s : ByteArray) : ∀ (k pos : Nat) (acc : Array Value), Conv.runesFrom s k pos acc = acc ++ ((runesL_ s k pos).map fun x => Value.int .i32 x).toArray
  | 0, _, acc => by simp [Conv.runesFrom, runesL_]
  | k + 1, pos, acc => by
    unfold Conv.runesFrom runesL_
    by_cases h : pos < s.size
    · rw [if_pos h, if_pos h]
      dsimp only
      rw [runesFrom_eq_ s k]
      simp
    · rw [if_neg h, if_neg h]
      simp
theorem valid_yes_ (r : Nat) (hv : r < 55296 ∨ (57343 < r ∧ r ≤ 1114111)) : Utf8.valid (r : Int) = true := by
  unfold Utf8.valid
  simp only [Bool.or_eq_true, Bool.and_eq_true, decide_eq_true_eq]
  omega
theorem valid_no_ (r : Nat) (hv : ¬ (r < 55296 ∨ (57343 < r ∧ r ≤ 1114111))) : Utf8.valid (r : Int) = false := by
  cases h : Utf8.valid (r : Int) with
  | false => rfl
  | true =>
    unfold Utf8.valid at h
    simp only [Bool.or_eq_true, Bool.and_eq_true, decide_eq_true_eq] at h
    omega
def encN_ (c : Nat) : ByteArray := if c < 128 then ⟨#[UInt8.ofNat c]⟩ else if c < 2048 then ⟨#[UInt8.ofNat (192 + c / 64), UInt8.ofNat (128 + c % 64)]⟩ else if c < 65536 then ⟨#[UInt8.ofNat (224 + c / 4096), UInt8.ofNat (128 + c / 64 % 64), UInt8.ofNat (128 + c % 64)]⟩ else ⟨#[UInt8.ofNat (240 + c / 262144), UInt8.ofNat (128 + c / 4096 % 64), UInt8.ofNat (128 + c / 64 % 64), UInt8.ofNat (128 + c % 64)]⟩
theorem enc_eq_ (r : Int) : Utf8.encode r = encN_ (if Utf8.valid r = true then r.toNat else Utf8.runeError) := rfl
theorem encN_bad_ : (encN_ 65533).data.toList = [239, 191, 189] := by
  unfold encN_
  simp only [Nat.reduceLT, ↓reduceIte, Nat.reduceDiv, Nat.reduceMod, Nat.reduceAdd]
  rfl
theorem enc_rune_ (r : Nat) : (Utf8.encode (r : Int)).data.toList = Lib.encodeRune (r : Int) := by
  unfold Lib.encodeRune
  rw [enc_eq_]
  by_cases hv : r < 55296 ∨ (57343 < r ∧ r ≤ 1114111)
  · rw [if_pos (valid_yes_ r hv), Int.toNat_natCast]
    unfold encN_
    by_cases h1 : r < 128
    · rw [if_pos h1, Lib.encodeRuneZ_one (by omega) (by omega)]
      rfl
    · rw [if_neg h1]
      by_cases h2 : r < 2048
      · rw [if_pos h2, Lib.encodeRuneZ_two (by omega) (by omega)]
        simp only [List.map_cons, List.map_nil, show (192 + (r : Int) / 64).toNat = 192 + r / 64 by omega, show (128 + (r : Int) % 64).toNat = 128 + r % 64 by omega]
      · rw [if_neg h2]
        by_cases h3 : r < 65536
        · rw [if_pos h3, Lib.encodeRuneZ_three (by omega)]
          simp only [List.map_cons, List.map_nil, show (224 + (r : Int) / 4096).toNat = 224 + r / 4096 by omega, show (128 + (r : Int) / 64 % 64).toNat = 128 + r / 64 % 64 by omega, show (128 + (r : Int) % 64).toNat = 128 + r % 64 by omega]
        · rw [if_neg h3, Lib.encodeRuneZ_four (by omega) (by omega)]
          simp only [List.map_cons, List.map_nil, show (240 + (r : Int) / 262144).toNat = 240 + r / 262144 by omega, show (128 + (r : Int) / 4096 % 64).toNat = 128 + r / 4096 % 64 by omega, show (128 + (r : Int) / 64 % 64).toNat = 128 + r / 64 % 64 by omega, show (128 + (r : Int) % 64).toNat = 128 + r % 64 by omega]
  · rw [Lib.encodeRuneZ_bad (by omega), if_neg (by rw [valid_no_ r hv]; decide), show Utf8.runeError = 65533 from rfl, encN_bad_]
    rfl
theorem runesBytes_list_ (ns : List Nat) : (runesBytes (ns.map fun (x : Nat) => (x : Int))).data.toList = ns.flatMap fun (x : Nat) => Lib.encodeRune (x : Int) := by
  unfold runesBytes
  have hk : ∀ (l : List Nat) (b : ByteArray), ((l.map fun (x : Nat) => (x : Int)).foldl (fun r n => r ++ Utf8.encode n) b).data.toList = b.data.toList ++ l.flatMap fun (x : Nat) => Lib.encodeRune (x : Int) := by
    intro l
    induction l with
    | nil => intro b; simp
    | cons x l ih =>
      intro b
      rw [List.map_cons, List.foldl_cons, ih]
      simp [enc_rune_, ByteArray.data_append]
  rw [hk]
  rfl
def runesN_ (s : ByteArray) : Nat → Nat → List Nat
  | 0, _ => []
  | k + 1, pos => if pos < s.size then (Utf8.decode s pos).1 :: runesN_ s k (pos + (Utf8.decode s pos).2) else []
theorem runesL_N_ (s : ByteArray) : ∀ k pos, runesL_ s k pos = (runesN_ s k pos).map fun (x : Nat) => (x : Int)
  | 0, _ => rfl
  | k + 1, pos => by
    unfold runesL_ runesN_
    split
    · rw [List.map_cons, runesL_N_ s k]
    · rfl
theorem bad_head_ {l : List UInt8} (h : ∃ t, l = 239 :: 191 :: 189 :: t) : ¬ ((Lib.decodeL l).1 = 65533 ∧ (Lib.decodeL l).2 = 1) := by
  obtain ⟨t, rfl⟩ := h
  rw [Lib.decodeL_N]
  have hh : Lib.decodeN (t.length + 3) 239 191 189 ((239 :: 191 :: 189 :: t : List UInt8).getD 3 0).toNat = (65533, 3) := by
    unfold Lib.decodeN
    simp
  intro e
  rw [show (239 :: 191 :: 189 :: t : List UInt8).length = t.length + 3 from rfl] at e
  rw [show ((239 :: 191 :: 189 :: t : List UInt8).getD 0 0).toNat = 239 from rfl, show ((239 :: 191 :: 189 :: t : List UInt8).getD 1 0).toNat = 191 from rfl, show ((239 :: 191 :: 189 :: t : List UInt8).getD 2 0).toNat = 189 from rfl, hh] at e
  exact absurd e.2 (by decide)
/-- what the runes from pos on encode to is what stood there, just where that is valid -/
theorem back_iff_ (s : ByteArray) : ∀ (k pos : Nat), s.size < pos + k → pos ≤ s.size → (((runesN_ s k pos).flatMap fun (x : Nat) => Lib.encodeRune (x : Int)) = s.data.toList.drop pos ↔ Lib.validD (s.data.toList.drop pos) = true)
  | 0, pos, h, h2 => absurd h (by omega)
  | k + 1, pos, h, h2 => by
    have hlen : s.data.toList.length = s.size := (Lib.size_eq s).symm
    unfold runesN_
    by_cases hp : pos < s.size
    · rw [if_pos hp]
      have hne : s.data.toList.drop pos ≠ [] := by
        intro h0
        have := congrArg List.length h0
        rw [List.length_drop, hlen] at this
        simp at this
        omega
      have hle := Lib.decodeL_le _ hne
      have hw := Lib.decodeL_width (s.data.toList.drop pos)
      rw [List.length_drop, hlen] at hle
      have hst := Lib.validD_step _ hne
      have hen := Lib.encode_decode (s.data.toList.drop pos) hne
      have hbh := @bad_head_ (s.data.toList.drop pos)
      rw [Lib.decodeL_drop] at hle hw hst hen hbh
      rw [hst, List.flatMap_cons]
      by_cases hb : (Utf8.decode s pos).1 = 65533 ∧ (Utf8.decode s pos).2 = 1
      · rw [if_pos hb]
        constructor
        · intro e
          refine absurd hb (hbh ?_)
          rw [hb.1, show Lib.encodeRune ((65533 : Nat) : Int) = [239, 191, 189] by decide] at e
          exact ⟨_, e.symm⟩
        · intro e
          cases e
      · rw [if_neg hb, hen hb]
        have ih := back_iff_ s k (pos + (Utf8.decode s pos).2) (by omega) (by omega)
        rw [List.drop_drop] at ⊢
        rw [← ih]
        constructor
        · intro e
          have e2 : (s.data.toList.drop pos).take (Utf8.decode s pos).2 ++ (s.data.toList.drop pos).drop (Utf8.decode s pos).2 = s.data.toList.drop pos := List.take_append_drop _ _
          have e3 := List.append_cancel_left (e.trans e2.symm)
          rw [List.drop_drop] at e3
          exact e3
        · intro e
          rw [e, ← List.drop_drop]
          exact List.take_append_drop _ _
    · rw [if_neg hp]
      have : s.data.toList.drop pos = [] := List.drop_eq_nil_of_le (by omega)
      rw [this]
      exact ⟨fun _ => rfl, fun _ => rfl⟩
theorem runesMay_all_ (s : ByteArray) : ∀ k pos, runesMay_ s k pos = (runesL_ s k pos).all mayR_
  | 0, _ => rfl
  | k + 1, pos => by
    unfold runesMay_ runesL_
    split
    · rw [List.all_cons, runesMay_all_ s k]
      cases mayR_ ((Utf8.decode s pos).1 : Int) <;> rfl
    · rfl
theorem runesL_more_ (s : ByteArray) : ∀ k pos, s.size ≤ pos + k → runesL_ s (k + 1) pos = runesL_ s k pos
  | 0, pos, h => by
    unfold runesL_
    rw [if_neg (by omega)]
  | k + 1, pos, h => by
    rw [runesL_]
    conv => rhs; rw [runesL_]
    by_cases hp : pos < s.size
    · rw [if_pos hp, if_pos hp, runesL_more_ s k (pos + (Utf8.decode s pos).2) (by have := Lib.width_pos s pos; omega)]
    · rw [if_neg hp, if_neg hp]
theorem class3R_ (k : Nat) (c : Int) (b : Bool) : ∃ v, v ≥ 2 ∧ quillworkref01_Class.j3 (k + 1) c b = some v := by
  simp only [quillworkref01_Class.j3]
  repeat' split
  all_goals exact ⟨_, by decide, rfl⟩
theorem runesR_len_ (s : ByteArray) : ∀ k pos, (runesL_ s k pos).length ≤ k
  | 0, _ => Nat.le_refl _
  | k + 1, pos => by
    unfold runesL_
    split
    · rw [List.length_cons]
      have := runesR_len_ s k (pos + (Utf8.decode s pos).2)
      omega
    · simp
theorem class2R_ (k : Nat) (c : Int) (b : Bool) : ∃ v, v ≥ 2 ∧ quillworkref01_Class.j2 (k + 2) c b = some v := by
  simp only [quillworkref01_Class.j2]
  repeat' split
  · exact ⟨_, by decide, rfl⟩
  all_goals exact class3R_ _ _ _
theorem class1R_ (k : Nat) (c : Int) : ∃ v, v ≥ 2 ∧ quillworkref01_Class.j1 (k + 3) c false = some v := by
  simp only [quillworkref01_Class.j1]
  rw [if_neg (by decide)]
  repeat' split
  all_goals exact class2R_ _ _ _
theorem class1T_ (k : Nat) (c : Int) : quillworkref01_Class.j1 (k + 1) c true = some 1 := by
  simp only [quillworkref01_Class.j1]
  rfl
theorem class0R_ (c : Int) : (quillworkref01_Class.j0 20 c false).bind (fun t => some (decide (t ≥ 2))) = some (decide (32 ≤ c ∧ c ≠ 127)) := by
  simp only [quillworkref01_Class.j0]
  rw [if_neg (by decide)]
  by_cases h1 : c < 32
  · rw [if_pos h1, class1T_, decide_eq_false (by omega)]
    rfl
  · rw [if_neg h1]
    by_cases h2 : c = 127
    · subst h2
      rw [show ((127 : Int) == 127) = true by decide, class1T_]
      rfl
    · rw [show (c == 127) = false by simpa using h2]
      obtain ⟨v, hv, e⟩ := class1R_ 16 c
      rw [e, Option.bind_some, decide_eq_true hv, decide_eq_true (by omega)]
theorem class0T_ (c : Int) : (quillworkref01_Class.j0 20 c true).bind (fun t => some (decide (t ≥ 2))) = some false := by
  simp only [quillworkref01_Class.j0]
  rfl
theorem mayref_is_ (c : Int) : quillworkref01_May.f 20 c = some (mayR_ c) := by
  unfold quillworkref01_May.f quillworkref01_Class.f mayR_
  by_cases h0 : c < 0
  · rw [if_pos h0, class0T_, decide_eq_false (by omega)]
  · rw [if_neg h0]
    by_cases h1 : c > 1114111
    · rw [if_pos h1, class0T_, decide_eq_false (by omega)]
    · rw [if_neg h1]
      by_cases h2 : c ≥ 55296
      · rw [if_pos h2]
        by_cases h3 : c ≤ 57343
        · rw [decide_eq_true h3, class0T_, decide_eq_false (by omega)]
        · rw [decide_eq_false h3, class0R_]
          congr 2
          simp
          omega
      · rw [if_neg h2, class0R_]
        congr 2
        simp
        omega
set_option maxHeartbeats 1000000 in
theorem runes_calls_ (s : ByteArray) (w : World) (hs : s.size ≤ 70368744177664) : Calls Tryd.prog 157 #[.string s] w fun e w' => ∃ ad c, e = .returned (.slice (some ad) (runesL_ s s.size 0).length c) ∧ (runesL_ s s.size 0).length ≤ c ∧ Kd.C (Kd.int .i32) w' (some ad) (runesL_ s s.size 0).length (runesL_ s s.size 0) ∧ Below w.heap.size w w' := by
  have hlen := runesR_len_ s s.size 0
  have he : Conv.runesFrom s s.size 0 #[] = ((runesL_ s s.size 0).map fun x => Value.int .i32 x).toArray := by rw [runesFrom_eq_]; simp
  have hcv := run_runes_of_string (P := Tryd.prog) w 9 119 21 s Tryd.underlying9 Tryd.underlying119 Tryd.underlying21 (by rw [he]; simp; omega)
  rw [he] at hcv
  have hge := grownCap_ge w ((runesL_ s s.size 0).map fun x => Value.int .i32 x).toArray.size 0 21
  rw [show ((runesL_ s s.size 0).map fun x => Value.int .i32 x).toArray.size = (runesL_ s s.size 0).length by simp] at hcv hge
  generalize grownCap w (runesL_ s s.size 0).length 0 21 = cap at hcv hge
  generalize runesL_ s s.size 0 = L at hcv hge hlen ⊢
  have hcap : L.length ≤ cap := by omega
  have hb : Below w.heap.size w (w.drew.alloc (.cells ((L.map fun x => Value.int .i32 x).toArray ++ Array.replicate (cap - L.length) (.int .i32 0)) 21)) := below_alloc (below_drew1 (Below.refl _ _)) _
  have hblk : (w.drew.alloc (.cells ((L.map fun x => Value.int .i32 x).toArray ++ Array.replicate (cap - L.length) (.int .i32 0)) 21)).heap[w.heap.size]? = some (.cells ((L.map fun x => Value.int .i32 x).toArray ++ Array.replicate (cap - L.length) (.int .i32 0)) 21 (0, 0)) := heap_alloc_new w.drew _
  generalize w.drew.alloc (.cells ((L.map fun x => Value.int .i32 x).toArray ++ Array.replicate (cap - L.length) (.int .i32 0)) 21) = W at hcv hb hblk
  have hC : Kd.C (Kd.int .i32) W (some ⟨w.heap.size, 0, none⟩) L.length L := by
    refine ⟨rfl, by omega, fun _ => ⟨_, rfl, fun j p hj => ⟨[.int .i32 p], rfl, rfl, fun i u hu => ?_⟩⟩⟩
    cases i with
    | zero =>
      cases hu
      have hjl := (List.getElem?_eq_some_iff.1 hj).1
      rw [show j * (Kd.int .i32).sz + 0 = j from by show j * 1 + 0 = j; omega, add_plain, blk_cell hblk j, Array.getElem?_append_left (by simpa using hjl)]
      simp [hj]
    | succ i => simp at hu
  have HC := Aside0.mk hC
  have HB := Aside0.mk hb
  clear hblk hC hb he hge hlen
  go_enter Tryd.func157, Tryd.ntmps157
  go_wp2
  go_ret
  exact ⟨_, cap, rfl, hcap, HC.out, HB.out⟩
def quillworkref03_Value.f (a0 : ByteArray) : Option Bool := if a0.size ≤ 70368744177664 then some (isValue_ a0) else none
set_option maxRecDepth 100000 in
set_option maxHeartbeats 4000000 in
theorem quillworkref03_Value.calls (a0 : ByteArray) (r : Bool) (w : World) (h : quillworkref03_Value.f a0 = some r) :
    Calls Tryd.prog 145 #[.string a0] w fun e w' => e = .returned (.bool r) ∧ Below w.heap.size w w' := by
  unfold quillworkref03_Value.f at h
  by_cases hs : a0.size ≤ 70368744177664
  · rw [if_pos hs] at h
    obtain rfl := Option.some.inj h
    clear h
    have HR := Aside0.mk (runes_calls_ a0 w hs)
    have hvl := back_iff_ a0 (a0.size + 1) 0 (by omega) (by omega)
    have hml := runesMay_all_ a0 (a0.size + 1) 0
    rw [runesL_more_ a0 a0.size 0 (by omega)] at hml
    have hRN := runesL_N_ a0 (a0.size + 1) 0
    rw [runesL_more_ a0 a0.size 0 (by omega)] at hRN
    rw [← runesBytes_list_, ← hRN, List.drop_zero] at hvl
    clear hRN
    generalize runesL_ a0 a0.size 0 = L at HR hvl hml
    have hV : isValue_ a0 = (L.all mayR_ && (decide (a0.size ≤ 200) && Lib.validD a0.data.toList)) := by unfold isValue_; rw [hml]
    rw [hV]
    clear hV hml hs
    have HVL := Aside0.mk hvl
    clear hvl
    go_enter Tryd.func145, Tryd.ntmps145
    go_upto_region 2 with (go_at_call 157; refine HR.out.mono ?_; rintro e W ⟨ad, c, rfl, hc, hC, hb⟩; have HC := Aside0.mk hC; have HCc := Aside0.mk hc; have HB := Aside0.mk hb; clear hC hb hc)
    by_cases h2 : a0.size ≤ 200
    case neg =>
      have e1 : decide (200 < (a0.size : Int)) = true := decide_eq_true (by omega)
      have e2 : decide (a0.size ≤ 200) = false := decide_eq_false h2
      have HE := Aside0.mk e2
      clear h2 e2
      go_wp2
      go_ret
      exact ⟨by rw [HE.out, Bool.false_and, Bool.and_false]; rfl, HB.out⟩
    case pos =>
      have e1 : decide (200 < (a0.size : Int)) = false := decide_eq_false (by omega)
      have HE := Aside0.mk (show decide (a0.size ≤ 200) = true from decide_eq_true h2)
      have hcv : (convert 119 9 (.slice (some ad) L.length c)).run Tryd.prog W = .ok (.string (runesBytes L)) W := by
        have h1 := run_convert_runes (P := Tryd.prog) W 119 9 21 ad L.length c L (Nat.le_refl _) Tryd.underlying119 Tryd.underlying21 Tryd.underlying9 (fun j hj => by
          obtain ⟨ad', had, hc⟩ := HC.out.2.2 (by omega)
          obtain ⟨cc, hl, hk, hcell⟩ := hc j _ (List.getElem?_eq_getElem hj)
          have hk' : cc = [.int .i32 L[j]] := hk
          subst hk'
          injection had with had
          subst had
          have h2 := hcell 0 _ rfl
          rw [show (Kd.int .i32).sz = 1 from rfl, Nat.mul_one, Nat.add_zero] at h2
          rw [h2, List.getD_eq_getElem?_getD, List.getElem?_eq_getElem hj]
          rfl)
        rwa [List.take_length] at h1
      have HE2 := Aside0.mk (show (runesBytes L).toList = a0.toList ↔ Lib.validD a0.data.toList = true by rw [ByteArray.toList_eq, ByteArray.toList_eq]; exact HVL.out)
      clear HVL h2
      generalize runesBytes L = B at hcv HE2
      cases hB : (B.toList == a0.toList) with
      | false =>
        have HF := Aside0.mk (show Lib.validD a0.data.toList = false by
          cases hv : Lib.validD a0.data.toList with
          | false => rfl
          | true => exact absurd (HE2.out.2 hv) (beq_eq_false_iff_ne.1 hB))
        go_wp2
        go_ret
        exact ⟨by rw [HF.out, Bool.and_false, Bool.and_false]; rfl, HB.out⟩
      | true =>
        have HF := Aside0.mk (HE2.out.1 (beq_iff_eq.1 hB))
        go_wp2
        clear hcv hB e1 HE2 HR
        have HLN := Aside0.mk HC.out.2.1
        go_loopg [4] L.length (fun g v4 w' => ∃ (i : Nat), v4 = .int .i64 (i : Int) ∧ i + g = L.length ∧ Aside0 ((L.drop i).all mayR_ = L.all mayR_) ∧ Aside0 (Kd.C (Kd.int .i32) w' (some ad) L.length L) ∧ Aside0 (Below w.heap.size w w'))
        case atStart => exact ⟨0, rfl, by omega, ⟨rfl⟩, HC, HB⟩
        case round =>
          clear HC HB
          obtain ⟨i, rfl, hig, HA, HC, HB⟩ := hrel
          cases gk with
          | succ g' =>
            have hlt : i < L.length := by omega
            have e1 : decide ((i : Int) < (L.length : Int)) = true := decide_eq_true (by omega)
            have w1' : IntKind.i64.wrap ((i : Int) + 1) = ((i + 1 : Nat) : Int) := by rw [i64_w]; unfold wrap64; have := HLN.out; omega
            have hcell : wr.cell? (ad.add i) = some (.int .i32 L[i]) := by
              obtain ⟨ad', had, hc⟩ := HC.out.2.2 (by omega)
              obtain ⟨cc, hl, hk, hcell⟩ := hc i _ (List.getElem?_eq_getElem hlt)
              have hk' : cc = [.int .i32 L[i]] := hk
              subst hk'
              injection had with had
              subst had
              have h2 := hcell 0 _ rfl
              rwa [show (Kd.int .i32).sz = 1 from rfl, Nat.mul_one, Nat.add_zero] at h2
            have hdr : L.drop i = L[i] :: L.drop (i + 1) := List.drop_eq_getElem_cons hlt
            have HA2 := Aside0.mk HA.out
            rw [hdr, List.all_cons] at HA2
            generalize L[i] = x at hcell HA2
            have HM := Aside0.mk (fun W => quillworkref01_May.calls 20 x (mayR_ x) W (mayref_is_ x))
            clear hdr HA
            cases hm : mayR_ x with
            | true =>
              rw [hm] at HM HA2
              go_wp2_with (go_at_call 124; refine (HM.out _).mono ?_; rintro e w' ⟨rfl, ⟨nd, rfl⟩⟩)
              go_roundg g'
              case measure => omega
              case rel => exact ⟨i + 1, by first | rfl | (simp; done), by omega, ⟨by simpa using HA2.out⟩, ⟨Kd.C_below HC.out (pw_below_drewN (Below.refl _ _) _)⟩, ⟨pw_below_drewN HB.out _⟩⟩
            | false =>
              rw [hm] at HM HA2
              go_wp2_with (go_at_call 124; refine (HM.out _).mono ?_; rintro e w' ⟨rfl, ⟨nd, rfl⟩⟩)
              go_ret
              exact ⟨by rw [← HA2.out]; rfl, pw_below_drewN HB.out _⟩
          | zero =>
            obtain rfl : i = L.length := by omega
            have e1 : decide ((L.length : Int) < (L.length : Int)) = false := decide_eq_false (by omega)
            have HA2 := Aside0.mk HA.out
            rw [List.drop_length] at HA2
            go_wp2
            go_ret
            exact ⟨by rw [HF.out, HE.out, ← HA2.out]; rfl, HB.out⟩
  · rw [if_neg hs] at h
    exact absurd h (by simp)

end Go.Proofs.YtgdpknmffohhaaaDoor.Pl

namespace Go.Proofs.YtgdpknmffohhaaaDoor.Pl
open Go.RowKit Go.Proofs.YtgdpknmffohhaaaDoorW.PrintWords Go.Proofs.YtgdpknmffohhaaaDoorW.PrintLast Go.Proofs.YtgdpknmffohhaaaDoorW.PrintMore
attribute [local go_sem] max2_int min2_int max_two min_two max_three min_three max_four min_four   -- for this text's walks alone
set_option linter.unusedVariables false
set_option linter.unusedSimpArgs false

/-! ### quillworkref03_Target: function 131 -/
mutual
def quillworkref03_Target.j0 : Nat → ByteArray → Bool → Option (Bool)
  | 0, _, _ => none
  | k + 1, x0, x26 => if x26 = true then (some false) else (quillworkref03_Target.l0 k x0 (⟨#[106, 97, 118, 97, 115, 99, 114, 105, 112, 116]⟩ : ByteArray) 0)
def quillworkref03_Target.j2 : Nat → ByteArray → ByteArray → Int → Option (Bool)
  | 0, _, _, _ => none
  | k + 1, x0, x3, x4 => if x4 = (x3.size : Int) then (quillworkref03_Target.l1 k x0 x3 x4 0) else (some true)
def quillworkref03_Target.l1 : Nat → ByteArray → ByteArray → Int → Int → Option (Bool)
  | 0, _, _, _, _ => none
  | k + 1, x0, x3, x4, x5 => if x5 < x4 then (if 0 ≤ x5 then (if x5 < (x0.size : Int) then (if (bt x0 x5) ≥ 65 then (quillworkref03_Target.j4 k x0 x3 x4 x5 (bt x0 x5) (decide ((bt x0 x5) ≤ 90))) else (quillworkref03_Target.j4 k x0 x3 x4 x5 (bt x0 x5) false)) else (none)) else (none)) else (some false)
def quillworkref03_Target.j4 : Nat → ByteArray → ByteArray → Int → Int → Int → Bool → Option (Bool)
  | 0, _, _, _, _, _, _ => none
  | k + 1, x0, x3, x4, x5, x6, x56 => if x56 = true then (if 0 ≤ x5 then (if x5 < (x3.size : Int) then (if ((x6 + 32) % 256) = (bt x3 x5) then (quillworkref03_Target.l1 k x0 x3 x4 (wrap64 (x5 + 1))) else (some true)) else (none)) else (none)) else (if 0 ≤ x5 then (if x5 < (x3.size : Int) then (if x6 = (bt x3 x5) then (quillworkref03_Target.l1 k x0 x3 x4 (wrap64 (x5 + 1))) else (some true)) else (none)) else (none))
def quillworkref03_Target.l0 : Nat → ByteArray → ByteArray → Int → Option (Bool)
  | 0, _, _, _ => none
  | k + 1, x0, x3, x4 => if x4 < (x0.size : Int) then (if 0 ≤ x4 then (if (bt x0 x4) = 58 then (quillworkref03_Target.j2 k x0 x3 x4) else (quillworkref03_Target.l0 k x0 x3 (wrap64 (x4 + 1)))) else (none)) else (quillworkref03_Target.j2 k x0 x3 x4)
end
def quillworkref03_Target.f (k : Nat) (a0 : ByteArray) : Option (Bool) := (quillworkref03_Value.f a0).bind fun t207 => (if t207 = true then (if a0.toList = ([] : List UInt8) then (quillworkref03_Target.j0 k a0 true) else (if 0 < (a0.size : Int) then (if (bt a0 0) = 32 then (quillworkref03_Target.j0 k a0 true) else (if 0 ≤ (wrap64 ((a0.size : Int) - 1)) then (if (wrap64 ((a0.size : Int) - 1)) < (a0.size : Int) then (quillworkref03_Target.j0 k a0 ((bt a0 (wrap64 ((a0.size : Int) - 1))) == 32)) else (none)) else (none))) else (none))) else (quillworkref03_Target.j0 k a0 true))
set_option maxHeartbeats 8000000 in
set_option maxRecDepth 100000 in
theorem quillworkref03_Target.calls (k : Nat) (a0 : ByteArray) (r : Bool) (w : World) (h : quillworkref03_Target.f k a0 = some r) :
    Calls Tryd.prog 131 #[.string a0] w fun e w' => e = .returned (.bool r) ∧ Below w.heap.size w w' := by
  have HB := Aside0.mk (Below.refl w.heap.size w)
  have H : ((quillworkref03_Value.f a0).bind fun t207 => (if t207 = true then (if a0.toList = ([] : List UInt8) then (quillworkref03_Target.j0 k a0 true) else (if 0 < (a0.size : Int) then (if (bt a0 0) = 32 then (quillworkref03_Target.j0 k a0 true) else (if 0 ≤ (wrap64 ((a0.size : Int) - 1)) then (if (wrap64 ((a0.size : Int) - 1)) < (a0.size : Int) then (quillworkref03_Target.j0 k a0 ((bt a0 (wrap64 ((a0.size : Int) - 1))) == 32)) else (none)) else (none))) else (none))) else (quillworkref03_Target.j0 k a0 true))) = some r := h
  clear h
  have HC2 := Aside0.mk H
  clear H
  go_enter Tryd.func131, Tryd.ntmps131
  go_upto_region 1 with (fail)
  go_cut [26] (fun v26 wc => ∃ (kq : Nat) (x26_1 : Bool), v26 = .bool x26_1 ∧ Aside0 (quillworkref03_Target.j0 kq a0 x26_1 = some r) ∧ Aside0 (kq ≤ k) ∧ Aside0 (Below w.heap.size w wc))
  case first =>
    have H := HC2.out
    clear HC2
    replace H := Option.bind_eq_some_iff.mp H
    obtain ⟨t207, A30, H⟩ := H
    replace H : (if t207 = true then (if a0.toList = ([] : List UInt8) then (quillworkref03_Target.j0 k a0 true) else (if 0 < (a0.size : Int) then (if (bt a0 0) = 32 then (quillworkref03_Target.j0 k a0 true) else (if 0 ≤ (wrap64 ((a0.size : Int) - 1)) then (if (wrap64 ((a0.size : Int) - 1)) < (a0.size : Int) then (quillworkref03_Target.j0 k a0 ((bt a0 (wrap64 ((a0.size : Int) - 1))) == 32)) else (none)) else (none))) else (none))) else (quillworkref03_Target.j0 k a0 true)) = some r := H
    have A3 := Aside0.mk A30
    clear A30
    by_cases c4 : t207 = true
    · subst c4
      have H1 : (if a0.toList = ([] : List UInt8) then (quillworkref03_Target.j0 k a0 true) else (if 0 < (a0.size : Int) then (if (bt a0 0) = 32 then (quillworkref03_Target.j0 k a0 true) else (if 0 ≤ (wrap64 ((a0.size : Int) - 1)) then (if (wrap64 ((a0.size : Int) - 1)) < (a0.size : Int) then (quillworkref03_Target.j0 k a0 ((bt a0 (wrap64 ((a0.size : Int) - 1))) == 32)) else (none)) else (none))) else (none))) = some r := by rw [if_pos rfl] at H; exact H
      clear H
      have H := H1
      clear H1
      by_cases c5 : a0.toList = ([] : List UInt8)
      · rw [if_pos c5] at H
        have c5b0 : (a0.toList == ([] : List UInt8)) = true := beq_iff_eq.mpr c5
        have c5b1 : (a0.toList != ([] : List UInt8)) = false := bne_eq_false_iff_eq.mpr c5
        clear c5
        (first | rw [c5b0] | (simp only [i64_w, i32_w]; rw [c5b0]) | skip)
        have H' := Aside0.mk H
        clear H
        go_wp2_with (first | ((with_reducible refine gate_callee (f := 145) rfl ?_); refine goesL_ (some 8) rfl rfl Tryd.func145 (by kernel_rfl) rfl #[.string a0] rfl (by (try simp only [List.map_toArray, List.map_cons, List.map_nil]); first | done | rfl | (simp only [List.length_drop, List.length_take]; rfl)) ?_; (with_reducible refine (quillworkref03_Value.calls a0 true _ A3.out).mono ?_); rintro e w6 ⟨rfl, hb⟩; refine ⟨_, rfl, ?_⟩; have n0_ := Aside0.mk (below_step (by repeat (first | (with_reducible first | exact HB.out | apply below_alloc | apply pw_below_drewN | apply below_drew1) | exact HB.out)) hb); clear HB; have HB := n0_; clear n0_; (try clear hb); (try clear hb2); (try clear hk); (try clear hi)))
        go_meet
        case rel => exact ⟨_, (true), (by first | rfl | (simp; done) | (simp [*]; done)), H', ⟨by first | omega | exact Nat.le_refl _⟩, ⟨by repeat (first | (with_reducible first | exact HB.out | apply below_alloc | apply pw_below_drewN | apply below_drew1) | exact HB.out)⟩⟩
      · rw [if_neg c5] at H
        have c5b0 : (a0.toList == ([] : List UInt8)) = false := beq_eq_false_iff_ne.mpr c5
        have c5b1 : (a0.toList != ([] : List UInt8)) = true := bne_iff_ne.mpr c5
        (first | rw [c5b0] | (simp only [i64_w, i32_w]; rw [c5b0]) | skip)
        by_cases c7 : 0 < (a0.size : Int)
        · rw [if_pos c7] at H
          have c7b0 : decide (0 < (a0.size : Int)) = true := decide_eq_true c7
          have c7b1 : decide (0 < a0.size) = true := decide_eq_true (by omega)
          clear c7
          by_cases c9 : (bt a0 0) = 32
          · rw [if_pos c9] at H
            have c9b0 : ((bt a0 0) == 32) = true := beq_iff_eq.mpr c9
            have c9b1 : ((bt a0 0) != 32) = false := bne_eq_false_iff_eq.mpr c9
            clear c9
            have H' := Aside0.mk H
            clear H
            go_wp2_with (first | ((with_reducible refine gate_callee (f := 145) rfl ?_); refine goesL_ (some 8) rfl rfl Tryd.func145 (by kernel_rfl) rfl #[.string a0] rfl (by (try simp only [List.map_toArray, List.map_cons, List.map_nil]); first | done | rfl | (simp only [List.length_drop, List.length_take]; rfl)) ?_; (with_reducible refine (quillworkref03_Value.calls a0 true _ A3.out).mono ?_); rintro e w10 ⟨rfl, hb⟩; refine ⟨_, rfl, ?_⟩; have n0_ := Aside0.mk (below_step (by repeat (first | (with_reducible first | exact HB.out | apply below_alloc | apply pw_below_drewN | apply below_drew1) | exact HB.out)) hb); clear HB; have HB := n0_; clear n0_; (try clear hb); (try clear hb2); (try clear hk); (try clear hi); have p8 : 0 ≤ (0 : Int) := (by omega); have q8 : 0 < a0.size := (by have : (0 : Int) < (a0.size : Int) := of_decide_eq_true (by first | (with_reducible assumption) | assumption); omega); have hx8 : ∀ h : 0 < a0.size, ((a0[0]'h).toNat : Int) = bt a0 0 := bt_at a0 0; clear p8; have qi8 : (0 < (a0.size : Int)) = True := eq_true (of_decide_eq_true (by first | (with_reducible assumption) | assumption)); replace q8 := eq_true q8))
            go_meet
            case rel => exact ⟨_, (true), (by first | rfl | (simp; done) | (simp [*]; done)), H', ⟨by first | omega | exact Nat.le_refl _⟩, ⟨by repeat (first | (with_reducible first | exact HB.out | apply below_alloc | apply pw_below_drewN | apply below_drew1) | exact HB.out)⟩⟩
          · rw [if_neg c9] at H
            have c9b0 : ((bt a0 0) == 32) = false := beq_eq_false_iff_ne.mpr c9
            have c9b1 : ((bt a0 0) != 32) = true := bne_iff_ne.mpr c9
            obtain ⟨ji11, hji11⟩ : ∃ j_ : Int, (wrap64 ((a0.size : Int) - 1)) = j_ := ⟨_, rfl⟩
            replace H : (if 0 ≤ (ji11) then (if (ji11) < (a0.size : Int) then (quillworkref03_Target.j0 k a0 ((bt a0 (ji11)) == 32)) else (none)) else (none)) = some r := by first | (rw [hji11] at H; exact H) | (simp only [hji11] at H ⊢; exact H)
            (try rw [hji11] at A3)
            have hji11w : (IntKind.i64.wrap ((a0.size : Int) - 1)) = ji11 := (i64_w _).trans hji11
            by_cases c12 : 0 ≤ (ji11)
            · rw [if_pos c12] at H
              have c12b0 : decide (0 ≤ (ji11)) = true := decide_eq_true c12
              clear c12
              by_cases c13 : (ji11) < (a0.size : Int)
              · rw [if_pos c13] at H
                have c13b0 : decide ((ji11) < (a0.size : Int)) = true := decide_eq_true c13
                clear c13
                have H' := Aside0.mk H
                clear H
                go_wp2_with (first | ((with_reducible refine gate_callee (f := 145) rfl ?_); refine goesL_ (some 8) rfl rfl Tryd.func145 (by kernel_rfl) rfl #[.string a0] rfl (by (try simp only [List.map_toArray, List.map_cons, List.map_nil]); first | done | rfl | (simp only [List.length_drop, List.length_take]; rfl)) ?_; (with_reducible refine (quillworkref03_Value.calls a0 true _ A3.out).mono ?_); rintro e w15 ⟨rfl, hb⟩; refine ⟨_, rfl, ?_⟩; have n0_ := Aside0.mk (below_step (by repeat (first | (with_reducible first | exact HB.out | apply below_alloc | apply pw_below_drewN | apply below_drew1) | exact HB.out)) hb); clear HB; have HB := n0_; clear n0_; (try clear hb); (try clear hb2); (try clear hk); (try clear hi); have p8 : 0 ≤ (0 : Int) := (by omega); have q8 : 0 < a0.size := (by have : (0 : Int) < (a0.size : Int) := of_decide_eq_true (by first | (with_reducible assumption) | assumption); omega); have hx8 : ∀ h : 0 < a0.size, ((a0[0]'h).toNat : Int) = bt a0 0 := bt_at a0 0; clear p8; have qi8 : (0 < (a0.size : Int)) = True := eq_true (of_decide_eq_true (by first | (with_reducible assumption) | assumption)); replace q8 := eq_true q8; have p14 : 0 ≤ ((ji11) : Int) := of_decide_eq_true (by first | (with_reducible assumption) | assumption); have q14 : (ji11) < (a0.size : Int) := of_decide_eq_true (by first | (with_reducible assumption) | assumption); have hx14 := bt_at a0 (ji11); replace p14 := eq_true p14; replace q14 := eq_true q14))
                go_meet
                case rel => exact ⟨_, (((bt a0 (ji11)) == 32)), (by first | rfl | (simp; done) | (simp only [← hji11] <;> (first | rfl | (simp; done) | (simp; generalize ByteArray.toList _ = z_; cases z_ <;> rfl))) | (simp [*]; done)), H', ⟨by first | omega | exact Nat.le_refl _⟩, ⟨by repeat (first | (with_reducible first | exact HB.out | apply below_alloc | apply pw_below_drewN | apply below_drew1) | exact HB.out)⟩⟩
              · rw [if_neg c13] at H
                exact absurd H (by simp)
            · rw [if_neg c12] at H
              exact absurd H (by simp)
        · rw [if_neg c7] at H
          exact absurd H (by simp)
    · replace c4 := Bool.eq_false_iff.mpr c4
      subst c4
      have H1 : (quillworkref03_Target.j0 k a0 true) = some r := by rw [if_neg (show ¬ (false = true) by decide)] at H; exact H
      clear H
      have H := H1
      clear H1
      have H' := Aside0.mk H
      clear H
      go_wp2_with (first | ((with_reducible refine gate_callee (f := 145) rfl ?_); refine goesL_ (some 8) rfl rfl Tryd.func145 (by kernel_rfl) rfl #[.string a0] rfl (by (try simp only [List.map_toArray, List.map_cons, List.map_nil]); first | done | rfl | (simp only [List.length_drop, List.length_take]; rfl)) ?_; (with_reducible refine (quillworkref03_Value.calls a0 false _ A3.out).mono ?_); rintro e w16 ⟨rfl, hb⟩; refine ⟨_, rfl, ?_⟩; have n0_ := Aside0.mk (below_step (by repeat (first | (with_reducible first | exact HB.out | apply below_alloc | apply pw_below_drewN | apply below_drew1) | exact HB.out)) hb); clear HB; have HB := n0_; clear n0_; (try clear hb); (try clear hb2); (try clear hk); (try clear hi)))
      go_meet
      case rel => exact ⟨_, (true), (by first | rfl | (simp; done) | (simp [*]; done)), H', ⟨by first | omega | exact Nat.le_refl _⟩, ⟨by repeat (first | (with_reducible first | exact HB.out | apply below_alloc | apply pw_below_drewN | apply below_drew1) | exact HB.out)⟩⟩
  case rest =>
    clear HC2
    try clear c1
    try clear p1
    try clear q1
    try clear hx1
    try clear p2
    try clear c4
    try clear c5
    try clear c5b0
    try clear c5b1
    try clear p6
    try clear c7
    try clear c7b0
    try clear c7b1
    try clear p8
    try clear q8
    try clear hx8
    try clear qi8
    try clear c9
    try clear c9b0
    try clear c9b1
    try clear c12
    try clear c12b0
    try clear c13
    try clear c13b0
    try clear c14
    try clear p14
    try clear q14
    try clear hx14
    try clear p14
    try clear p8
    try clear q14
    try clear q8
    obtain ⟨kq, x26_1, rfl, HA, HJ1, HB⟩ := hcut
    cases kq with
    | zero => exact absurd HA.out (by simp [quillworkref03_Target.j0])
    | succ kj1 =>
      have H := HA.out
      clear HA
      simp only [quillworkref03_Target.j0] at H
      by_cases c17 : x26_1 = true
      · subst c17
        have H1 : (some false) = some r := by rw [if_pos rfl] at H; exact H
        clear H
        have H := H1
        clear H1
        obtain rfl := Option.some.inj H
        go_wp2
        go_ret
        exact ⟨by first | rfl | (simp [errW_none, errW_some] <;> rfl) | (simp [*, errW_none, errW_some] <;> rfl), by repeat (first | (with_reducible first | exact HB.out | apply below_alloc | apply pw_below_drewN | apply below_drew1) | exact HB.out)⟩
      · replace c17 := Bool.eq_false_iff.mpr c17
        subst c17
        have H1 : (quillworkref03_Target.l0 kj1 a0 (⟨#[106, 97, 118, 97, 115, 99, 114, 105, 112, 116]⟩ : ByteArray) 0) = some r := by rw [if_neg (show ¬ (false = true) by decide)] at H; exact H
        clear H
        have H := H1
        clear H1
        have HC18 := Aside0.mk H
        clear H
        go_upto_block 0 with (fail)
        go_cut [4] (fun v4 wc => ∃ (kq : Nat) (x4_17 : Int), v4 = .int .i64 x4_17 ∧ Aside0 (quillworkref03_Target.j2 kq a0 (⟨#[106, 97, 118, 97, 115, 99, 114, 105, 112, 116]⟩ : ByteArray) x4_17 = some r) ∧ Aside0 (kq ≤ kj1) ∧ Aside0 (Below w.heap.size w wc))
        case first =>
          have H := HC18.out
          clear HC18
          have H' := Aside0.mk H
          clear H
          go_wp2
          go_loopg [4] kj1 (fun kq v4 w' => ∃ (x4_2 : Int), v4 = .int .i64 x4_2 ∧ Aside0 (quillworkref03_Target.l0 kq a0 (⟨#[106, 97, 118, 97, 115, 99, 114, 105, 112, 116]⟩ : ByteArray) x4_2 = some r) ∧ Aside0 (kq ≤ kj1) ∧ Aside0 (Below w.heap.size w w'))
          case atStart => exact ⟨(0), (by first | rfl | (simp; done) | (simp [*]; done)), H', ⟨Nat.le_refl _⟩, ⟨by repeat (first | (with_reducible first | exact HB.out | apply below_alloc | apply pw_below_drewN | apply below_drew1) | exact HB.out)⟩⟩
          case round =>
            clear H'
            try clear c1
            try clear p1
            try clear q1
            try clear hx1
            try clear p2
            try clear c4
            try clear c5
            try clear c5b0
            try clear c5b1
            try clear p6
            try clear c7
            try clear c7b0
            try clear c7b1
            try clear p8
            try clear q8
            try clear hx8
            try clear qi8
            try clear c9
            try clear c9b0
            try clear c9b1
            try clear c12
            try clear c12b0
            try clear c13
            try clear c13b0
            try clear c14
            try clear p14
            try clear q14
            try clear hx14
            try clear c17
            try clear p1
            try clear p14
            try clear p2
            try clear p6
            try clear p8
            try clear q1
            try clear q14
            try clear q8
            obtain ⟨x4_2, rfl, HA, HK2, HB⟩ := hrel
            cases gk with
            | zero => exact absurd HA.out (by simp [quillworkref03_Target.l0])
            | succ k2 =>
              have H := HA.out
              clear HA
              simp only [quillworkref03_Target.l0] at H
              by_cases c19 : x4_2 < (a0.size : Int)
              · rw [if_pos c19] at H
                have c19b0 : decide (x4_2 < (a0.size : Int)) = true := decide_eq_true c19
                clear c19
                (first | rw [c19b0] | (simp only [i64_w, i32_w]; rw [c19b0]) | skip)
                by_cases c20 : 0 ≤ x4_2
                · rw [if_pos c20] at H
                  have c20b0 : decide (0 ≤ x4_2) = true := decide_eq_true c20
                  clear c20
                  by_cases c22 : (bt a0 x4_2) = 58
                  · rw [if_pos c22] at H
                    have c22b0 : ((bt a0 x4_2) == 58) = true := beq_iff_eq.mpr c22
                    have c22b1 : ((bt a0 x4_2) != 58) = false := bne_eq_false_iff_eq.mpr c22
                    clear c22
                    have H' := Aside0.mk H
                    clear H
                    have p21 : 0 ≤ (x4_2 : Int) := of_decide_eq_true (by first | (with_reducible assumption) | assumption)
                    have q21 : x4_2 < (a0.size : Int) := of_decide_eq_true (by first | (with_reducible assumption) | assumption)
                    have hx21 := bt_at a0 x4_2
                    replace p21 := eq_true p21
                    replace q21 := eq_true q21
                    go_wp2
                    go_meet
                    case rel => exact ⟨_, (x4_2), (by first | rfl | (simp; done) | (simp [*]; done)), H', ⟨by have := HJ1.out; have := HK2.out; first | omega | exact Nat.le_refl _⟩, ⟨by repeat (first | (with_reducible first | exact HB.out | apply below_alloc | apply pw_below_drewN | apply below_drew1) | exact HB.out)⟩⟩
                  · rw [if_neg c22] at H
                    have c22b0 : ((bt a0 x4_2) == 58) = false := beq_eq_false_iff_ne.mpr c22
                    have c22b1 : ((bt a0 x4_2) != 58) = true := bne_iff_ne.mpr c22
                    have H' := Aside0.mk H
                    clear H
                    have p21 : 0 ≤ (x4_2 : Int) := of_decide_eq_true (by first | (with_reducible assumption) | assumption)
                    have q21 : x4_2 < (a0.size : Int) := of_decide_eq_true (by first | (with_reducible assumption) | assumption)
                    have hx21 := bt_at a0 x4_2
                    replace p21 := eq_true p21
                    replace q21 := eq_true q21
                    go_wp2
                    go_roundg k2
                    case measure => have := HJ1.out; have := HK2.out; omega
                    case rel => exact ⟨(wrap64 (x4_2 + 1)), (by first | rfl | (simp; done) | (simp [*]; done)), H', ⟨by have := HJ1.out; have := HK2.out; omega⟩, ⟨by repeat (first | (with_reducible first | exact HB.out | apply below_alloc | apply pw_below_drewN | apply below_drew1) | exact HB.out)⟩⟩
                · rw [if_neg c20] at H
                  exact absurd H (by simp)
              · rw [if_neg c19] at H
                have c19b0 : decide (x4_2 < (a0.size : Int)) = false := decide_eq_false c19
                clear c19
                (first | rw [c19b0] | (simp only [i64_w, i32_w]; rw [c19b0]) | skip)
                have H' := Aside0.mk H
                clear H
                go_wp2
                go_meet
                case rel => exact ⟨_, (x4_2), (by first | rfl | (simp; done) | (simp [*]; done)), H', ⟨by have := HJ1.out; have := HK2.out; first | omega | exact Nat.le_refl _⟩, ⟨by repeat (first | (with_reducible first | exact HB.out | apply below_alloc | apply pw_below_drewN | apply below_drew1) | exact HB.out)⟩⟩
        case rest =>
          clear HC18
          try clear c1
          try clear p1
          try clear q1
          try clear hx1
          try clear c2
          try clear p2
          try clear q2
          try clear hx2
          try clear c4
          try clear c5
          try clear c5b0
          try clear c5b1
          try clear p6
          try clear c7
          try clear c7b0
          try clear c7b1
          try clear p8
          try clear q8
          try clear hx8
          try clear qi8
          try clear c9
          try clear c9b0
          try clear c9b1
          try clear c12
          try clear c12b0
          try clear c13
          try clear c13b0
          try clear c14
          try clear p14
          try clear q14
          try clear hx14
          try clear c17
          try clear c19
          try clear c19b0
          try clear c20
          try clear c20b0
          try clear p21
          try clear q21
          try clear hx21
          try clear c22
          try clear c22b0
          try clear c22b1
          try clear p1
          try clear p14
          try clear p2
          try clear p21
          try clear p6
          try clear p8
          try clear q1
          try clear q14
          try clear q21
          try clear q8
          obtain ⟨kq, x4_17, rfl, HA, HJ17, HB⟩ := hcut
          cases kq with
          | zero => exact absurd HA.out (by simp [quillworkref03_Target.j2])
          | succ kj17 =>
            have H := HA.out
            clear HA
            simp only [quillworkref03_Target.j2] at H
            by_cases c23 : x4_17 = ((⟨#[106, 97, 118, 97, 115, 99, 114, 105, 112, 116]⟩ : ByteArray).size : Int)
            · rw [if_pos c23] at H
              have c23b0 : (x4_17 == ((⟨#[106, 97, 118, 97, 115, 99, 114, 105, 112, 116]⟩ : ByteArray).size : Int)) = true := beq_iff_eq.mpr c23
              have c23b0s : (x4_17 == 10) = true := c23b0
              have c23b1 : (x4_17 != ((⟨#[106, 97, 118, 97, 115, 99, 114, 105, 112, 116]⟩ : ByteArray).size : Int)) = false := bne_eq_false_iff_eq.mpr c23
              have c23b1s : (x4_17 != 10) = false := c23b1
              clear c23
              have H' := Aside0.mk H
              clear H
              go_wp2
              go_loopg [5] kj17 (fun kq v5 w' => ∃ (x5_3 : Int), v5 = .int .i64 x5_3 ∧ Aside0 (quillworkref03_Target.l1 kq a0 (⟨#[106, 97, 118, 97, 115, 99, 114, 105, 112, 116]⟩ : ByteArray) x4_17 x5_3 = some r) ∧ Aside0 (kq ≤ kj17) ∧ Aside0 (Below w.heap.size w w'))
              case atStart => exact ⟨(0), (by first | rfl | (simp; done) | (simp [*]; done)), H', ⟨Nat.le_refl _⟩, ⟨by repeat (first | (with_reducible first | exact HB.out | apply below_alloc | apply pw_below_drewN | apply below_drew1) | exact HB.out)⟩⟩
              case round =>
                clear H'
                try clear c1
                try clear p1
                try clear q1
                try clear hx1
                try clear c2
                try clear p2
                try clear q2
                try clear hx2
                try clear c4
                try clear c5
                try clear c5b0
                try clear c5b1
                try clear p6
                try clear c7
                try clear c7b0
                try clear c7b1
                try clear p8
                try clear q8
                try clear hx8
                try clear qi8
                try clear c9
                try clear c9b0
                try clear c9b1
                try clear c12
                try clear c12b0
                try clear c13
                try clear c13b0
                try clear c14
                try clear p14
                try clear q14
                try clear hx14
                try clear c17
                try clear c19
                try clear c19b0
                try clear c20
                try clear c20b0
                try clear p21
                try clear q21
                try clear hx21
                try clear c22
                try clear c22b0
                try clear c22b1
                try clear c23
                try clear c23b0
                try clear c23b1
                try clear p1
                try clear p14
                try clear p2
                try clear p21
                try clear p6
                try clear p8
                try clear q1
                try clear q14
                try clear q2
                try clear q21
                try clear q8
                obtain ⟨x5_3, rfl, HA, HK3, HB⟩ := hrel
                cases gk with
                | zero => exact absurd HA.out (by simp [quillworkref03_Target.l1])
                | succ k3 =>
                  have H := HA.out
                  clear HA
                  simp only [quillworkref03_Target.l1] at H
                  by_cases c24 : x5_3 < x4_17
                  · rw [if_pos c24] at H
                    have c24b0 : decide (x5_3 < x4_17) = true := decide_eq_true c24
                    clear c24
                    by_cases c25 : 0 ≤ x5_3
                    · rw [if_pos c25] at H
                      have c25b0 : decide (0 ≤ x5_3) = true := decide_eq_true c25
                      clear c25
                      by_cases c26 : x5_3 < (a0.size : Int)
                      · rw [if_pos c26] at H
                        have c26b0 : decide (x5_3 < (a0.size : Int)) = true := decide_eq_true c26
                        clear c26
                        have HC28 := Aside0.mk H
                        clear H
                        have p27 : 0 ≤ (x5_3 : Int) := of_decide_eq_true (by first | (with_reducible assumption) | assumption)
                        have q27 : x5_3 < (a0.size : Int) := of_decide_eq_true (by first | (with_reducible assumption) | assumption)
                        have hx27 := bt_at a0 x5_3
                        replace p27 := eq_true p27
                        replace q27 := eq_true q27
                        go_upto_region 13 with (fail)
                        go_cut [56] (fun v56 wc => ∃ (kq : Nat) (x56_27 : Bool), v56 = .bool x56_27 ∧ Aside0 (quillworkref03_Target.j4 kq a0 (⟨#[106, 97, 118, 97, 115, 99, 114, 105, 112, 116]⟩ : ByteArray) x4_17 x5_3 (bt a0 x5_3) x56_27 = some r) ∧ Aside0 (kq ≤ k3) ∧ Aside0 (Below w.heap.size w wc))
                        case first =>
                          have H := HC28.out
                          clear HC28
                          by_cases c29 : (bt a0 x5_3) ≥ 65
                          · rw [if_pos c29] at H
                            have c29b0 : decide (65 ≤ (bt a0 x5_3)) = true := decide_eq_true c29
                            clear c29
                            (first | rw [c29b0] | (simp only [i64_w, i32_w]; rw [c29b0]) | skip)
                            have H' := Aside0.mk H
                            clear H
                            go_wp2
                            go_meet
                            case rel => exact ⟨_, (decide ((bt a0 x5_3) ≤ 90)), (by first | rfl | (simp; done) | (simp [*]; done)), H', ⟨by have := HJ1.out; have := HJ17.out; have := HK3.out; first | omega | exact Nat.le_refl _⟩, ⟨by repeat (first | (with_reducible first | exact HB.out | apply below_alloc | apply pw_below_drewN | apply below_drew1) | exact HB.out)⟩⟩
                          · rw [if_neg c29] at H
                            have c29b0 : decide (65 ≤ (bt a0 x5_3)) = false := decide_eq_false c29
                            clear c29
                            (first | rw [c29b0] | (simp only [i64_w, i32_w]; rw [c29b0]) | skip)
                            have H' := Aside0.mk H
                            clear H
                            go_wp2
                            go_meet
                            case rel => exact ⟨_, (false), (by first | rfl | (simp; done) | (simp [*]; done)), H', ⟨by have := HJ1.out; have := HJ17.out; have := HK3.out; first | omega | exact Nat.le_refl _⟩, ⟨by repeat (first | (with_reducible first | exact HB.out | apply below_alloc | apply pw_below_drewN | apply below_drew1) | exact HB.out)⟩⟩
                        case rest =>
                          clear HC28
                          try clear c1
                          try clear p1
                          try clear q1
                          try clear hx1
                          try clear c2
                          try clear p2
                          try clear q2
                          try clear hx2
                          try clear c4
                          try clear c5
                          try clear c5b0
                          try clear c5b1
                          try clear p6
                          try clear c7
                          try clear c7b0
                          try clear c7b1
                          try clear p8
                          try clear q8
                          try clear hx8
                          try clear qi8
                          try clear c9
                          try clear c9b0
                          try clear c9b1
                          try clear c12
                          try clear c12b0
                          try clear c13
                          try clear c13b0
                          try clear c14
                          try clear p14
                          try clear q14
                          try clear hx14
                          try clear c17
                          try clear c19
                          try clear c19b0
                          try clear c20
                          try clear c20b0
                          try clear p21
                          try clear q21
                          try clear hx21
                          try clear c22
                          try clear c22b0
                          try clear c22b1
                          try clear c23
                          try clear c23b0
                          try clear c23b1
                          try clear c24
                          try clear c24b0
                          try clear c25
                          try clear c25b0
                          try clear c26
                          try clear c26b0
                          try clear p27
                          try clear q27
                          try clear hx27
                          try clear c29
                          try clear c29b0
                          try clear p1
                          try clear p14
                          try clear p2
                          try clear p21
                          try clear p27
                          try clear p6
                          try clear p8
                          try clear q1
                          try clear q14
                          try clear q2
                          try clear q21
                          try clear q27
                          try clear q8
                          obtain ⟨kq, x56_27, rfl, HA, HJ27, HB⟩ := hcut
                          cases kq with
                          | zero => exact absurd HA.out (by simp [quillworkref03_Target.j4])
                          | succ kj27 =>
                            have H := HA.out
                            clear HA
                            simp only [quillworkref03_Target.j4] at H
                            by_cases c30 : x56_27 = true
                            · subst c30
                              have H1 : (if 0 ≤ x5_3 then (if x5_3 < ((⟨#[106, 97, 118, 97, 115, 99, 114, 105, 112, 116]⟩ : ByteArray).size : Int) then (if (((bt a0 x5_3) + 32) % 256) = (bt (⟨#[106, 97, 118, 97, 115, 99, 114, 105, 112, 116]⟩ : ByteArray) x5_3) then (quillworkref03_Target.l1 kj27 a0 (⟨#[106, 97, 118, 97, 115, 99, 114, 105, 112, 116]⟩ : ByteArray) x4_17 (wrap64 (x5_3 + 1))) else (some true)) else (none)) else (none)) = some r := by rw [if_pos rfl] at H; exact H
                              clear H
                              have H := H1
                              clear H1
                              by_cases c31 : 0 ≤ x5_3
                              · rw [if_pos c31] at H
                                have c31b0 : decide (0 ≤ x5_3) = true := decide_eq_true c31
                                clear c31
                                by_cases c32 : x5_3 < ((⟨#[106, 97, 118, 97, 115, 99, 114, 105, 112, 116]⟩ : ByteArray).size : Int)
                                · rw [if_pos c32] at H
                                  have c32b0 : decide (x5_3 < ((⟨#[106, 97, 118, 97, 115, 99, 114, 105, 112, 116]⟩ : ByteArray).size : Int)) = true := decide_eq_true c32
                                  have c32b0s : decide (x5_3 < 10) = true := c32b0
                                  clear c32
                                  by_cases c34 : (((bt a0 x5_3) + 32) % 256) = (bt (⟨#[106, 97, 118, 97, 115, 99, 114, 105, 112, 116]⟩ : ByteArray) x5_3)
                                  · rw [if_pos c34] at H
                                    have c34b0 : ((((bt a0 x5_3) + 32) % 256) == (bt (⟨#[106, 97, 118, 97, 115, 99, 114, 105, 112, 116]⟩ : ByteArray) x5_3)) = true := beq_iff_eq.mpr c34
                                    have c34b1 : ((((bt a0 x5_3) + 32) % 256) != (bt (⟨#[106, 97, 118, 97, 115, 99, 114, 105, 112, 116]⟩ : ByteArray) x5_3)) = false := bne_eq_false_iff_eq.mpr c34
                                    clear c34
                                    have H' := Aside0.mk H
                                    clear H
                                    have p33 : 0 ≤ (x5_3 : Int) := of_decide_eq_true (by first | (with_reducible assumption) | assumption)
                                    have q33 : x5_3 < (10 : Int) := of_decide_eq_true (by first | (with_reducible assumption) | assumption)
                                    have hx33 := bt_at (⟨#[106, 97, 118, 97, 115, 99, 114, 105, 112, 116]⟩ : ByteArray) x5_3
                                    replace p33 := eq_true p33
                                    replace q33 := eq_true q33
                                    go_wp2
                                    go_roundg kj27
                                    case measure => have := HJ1.out; have := HJ17.out; have := HK3.out; have := HJ27.out; omega
                                    case rel => exact ⟨(wrap64 (x5_3 + 1)), (by first | rfl | (simp; done) | (simp [*]; done)), H', ⟨by have := HJ1.out; have := HJ17.out; have := HK3.out; have := HJ27.out; omega⟩, ⟨by repeat (first | (with_reducible first | exact HB.out | apply below_alloc | apply pw_below_drewN | apply below_drew1) | exact HB.out)⟩⟩
                                  · rw [if_neg c34] at H
                                    have c34b0 : ((((bt a0 x5_3) + 32) % 256) == (bt (⟨#[106, 97, 118, 97, 115, 99, 114, 105, 112, 116]⟩ : ByteArray) x5_3)) = false := beq_eq_false_iff_ne.mpr c34
                                    have c34b1 : ((((bt a0 x5_3) + 32) % 256) != (bt (⟨#[106, 97, 118, 97, 115, 99, 114, 105, 112, 116]⟩ : ByteArray) x5_3)) = true := bne_iff_ne.mpr c34
                                    obtain rfl := Option.some.inj H
                                    have p33 : 0 ≤ (x5_3 : Int) := of_decide_eq_true (by first | (with_reducible assumption) | assumption)
                                    have q33 : x5_3 < (10 : Int) := of_decide_eq_true (by first | (with_reducible assumption) | assumption)
                                    have hx33 := bt_at (⟨#[106, 97, 118, 97, 115, 99, 114, 105, 112, 116]⟩ : ByteArray) x5_3
                                    replace p33 := eq_true p33
                                    replace q33 := eq_true q33
                                    go_wp2
                                    go_ret
                                    exact ⟨by first | rfl | (simp [errW_none, errW_some] <;> rfl) | (simp [*, errW_none, errW_some] <;> rfl), by repeat (first | (with_reducible first | exact HB.out | apply below_alloc | apply pw_below_drewN | apply below_drew1) | exact HB.out)⟩
                                · rw [if_neg c32] at H
                                  exact absurd H (by simp)
                              · rw [if_neg c31] at H
                                exact absurd H (by simp)
                            · replace c30 := Bool.eq_false_iff.mpr c30
                              subst c30
                              have H1 : (if 0 ≤ x5_3 then (if x5_3 < ((⟨#[106, 97, 118, 97, 115, 99, 114, 105, 112, 116]⟩ : ByteArray).size : Int) then (if (bt a0 x5_3) = (bt (⟨#[106, 97, 118, 97, 115, 99, 114, 105, 112, 116]⟩ : ByteArray) x5_3) then (quillworkref03_Target.l1 kj27 a0 (⟨#[106, 97, 118, 97, 115, 99, 114, 105, 112, 116]⟩ : ByteArray) x4_17 (wrap64 (x5_3 + 1))) else (some true)) else (none)) else (none)) = some r := by rw [if_neg (show ¬ (false = true) by decide)] at H; exact H
                              clear H
                              have H := H1
                              clear H1
                              by_cases c35 : 0 ≤ x5_3
                              · rw [if_pos c35] at H
                                have c35b0 : decide (0 ≤ x5_3) = true := decide_eq_true c35
                                clear c35
                                by_cases c36 : x5_3 < ((⟨#[106, 97, 118, 97, 115, 99, 114, 105, 112, 116]⟩ : ByteArray).size : Int)
                                · rw [if_pos c36] at H
                                  have c36b0 : decide (x5_3 < ((⟨#[106, 97, 118, 97, 115, 99, 114, 105, 112, 116]⟩ : ByteArray).size : Int)) = true := decide_eq_true c36
                                  have c36b0s : decide (x5_3 < 10) = true := c36b0
                                  clear c36
                                  by_cases c38 : (bt a0 x5_3) = (bt (⟨#[106, 97, 118, 97, 115, 99, 114, 105, 112, 116]⟩ : ByteArray) x5_3)
                                  · rw [if_pos c38] at H
                                    have c38b0 : ((bt a0 x5_3) == (bt (⟨#[106, 97, 118, 97, 115, 99, 114, 105, 112, 116]⟩ : ByteArray) x5_3)) = true := beq_iff_eq.mpr c38
                                    have c38b1 : ((bt a0 x5_3) != (bt (⟨#[106, 97, 118, 97, 115, 99, 114, 105, 112, 116]⟩ : ByteArray) x5_3)) = false := bne_eq_false_iff_eq.mpr c38
                                    clear c38
                                    have H' := Aside0.mk H
                                    clear H
                                    have p37 : 0 ≤ (x5_3 : Int) := of_decide_eq_true (by first | (with_reducible assumption) | assumption)
                                    have q37 : x5_3 < (10 : Int) := of_decide_eq_true (by first | (with_reducible assumption) | assumption)
                                    have hx37 := bt_at (⟨#[106, 97, 118, 97, 115, 99, 114, 105, 112, 116]⟩ : ByteArray) x5_3
                                    replace p37 := eq_true p37
                                    replace q37 := eq_true q37
                                    go_wp2
                                    go_roundg kj27
                                    case measure => have := HJ1.out; have := HJ17.out; have := HK3.out; have := HJ27.out; omega
                                    case rel => exact ⟨(wrap64 (x5_3 + 1)), (by first | rfl | (simp; done) | (simp [*]; done)), H', ⟨by have := HJ1.out; have := HJ17.out; have := HK3.out; have := HJ27.out; omega⟩, ⟨by repeat (first | (with_reducible first | exact HB.out | apply below_alloc | apply pw_below_drewN | apply below_drew1) | exact HB.out)⟩⟩
                                  · rw [if_neg c38] at H
                                    have c38b0 : ((bt a0 x5_3) == (bt (⟨#[106, 97, 118, 97, 115, 99, 114, 105, 112, 116]⟩ : ByteArray) x5_3)) = false := beq_eq_false_iff_ne.mpr c38
                                    have c38b1 : ((bt a0 x5_3) != (bt (⟨#[106, 97, 118, 97, 115, 99, 114, 105, 112, 116]⟩ : ByteArray) x5_3)) = true := bne_iff_ne.mpr c38
                                    obtain rfl := Option.some.inj H
                                    have p37 : 0 ≤ (x5_3 : Int) := of_decide_eq_true (by first | (with_reducible assumption) | assumption)
                                    have q37 : x5_3 < (10 : Int) := of_decide_eq_true (by first | (with_reducible assumption) | assumption)
                                    have hx37 := bt_at (⟨#[106, 97, 118, 97, 115, 99, 114, 105, 112, 116]⟩ : ByteArray) x5_3
                                    replace p37 := eq_true p37
                                    replace q37 := eq_true q37
                                    go_wp2
                                    go_ret
                                    exact ⟨by first | rfl | (simp [errW_none, errW_some] <;> rfl) | (simp [*, errW_none, errW_some] <;> rfl), by repeat (first | (with_reducible first | exact HB.out | apply below_alloc | apply pw_below_drewN | apply below_drew1) | exact HB.out)⟩
                                · rw [if_neg c36] at H
                                  exact absurd H (by simp)
                              · rw [if_neg c35] at H
                                exact absurd H (by simp)
                      · rw [if_neg c26] at H
                        exact absurd H (by simp)
                    · rw [if_neg c25] at H
                      exact absurd H (by simp)
                  · rw [if_neg c24] at H
                    have c24b0 : decide (x5_3 < x4_17) = false := decide_eq_false c24
                    clear c24
                    obtain rfl := Option.some.inj H
                    go_wp2
                    go_ret
                    exact ⟨by first | rfl | (simp [errW_none, errW_some] <;> rfl) | (simp [*, errW_none, errW_some] <;> rfl), by repeat (first | (with_reducible first | exact HB.out | apply below_alloc | apply pw_below_drewN | apply below_drew1) | exact HB.out)⟩
            · rw [if_neg c23] at H
              have c23b0 : (x4_17 == ((⟨#[106, 97, 118, 97, 115, 99, 114, 105, 112, 116]⟩ : ByteArray).size : Int)) = false := beq_eq_false_iff_ne.mpr c23
              have c23b0s : (x4_17 == 10) = false := c23b0
              have c23b1 : (x4_17 != ((⟨#[106, 97, 118, 97, 115, 99, 114, 105, 112, 116]⟩ : ByteArray).size : Int)) = true := bne_iff_ne.mpr c23
              have c23b1s : (x4_17 != 10) = true := c23b1
              obtain rfl := Option.some.inj H
              go_wp2
              go_ret
              exact ⟨by first | rfl | (simp [errW_none, errW_some] <;> rfl) | (simp [*, errW_none, errW_some] <;> rfl), by repeat (first | (with_reducible first | exact HB.out | apply below_alloc | apply pw_below_drewN | apply below_drew1) | exact HB.out)⟩

end Go.Proofs.YtgdpknmffohhaaaDoor.Pl

namespace Go.Proofs.YtgdpknmffohhaaaDoor.Pl
open Go.RowKit Go.Proofs.YtgdpknmffohhaaaDoorW.PrintWords Go.Proofs.YtgdpknmffohhaaaDoorW.PrintLast Go.Proofs.YtgdpknmffohhaaaDoorW.PrintMore
attribute [local go_sem] max2_int min2_int max_two min_two max_three min_three max_four min_four   -- for this text's walks alone
set_option linter.unusedVariables false
set_option linter.unusedSimpArgs false

/-! ### quillworkref05_Link: function 107 -/
def quillworkref05_Link.f (k : Nat) (a0 : ByteArray) : Option (Bool) := if a0.toList = ([] : List UInt8) then (some true) else ((quillworkref03_Target.f k a0).bind fun t208 => (some t208))
set_option maxHeartbeats 8000000 in
set_option maxRecDepth 100000 in
theorem quillworkref05_Link.calls (k : Nat) (a0 : ByteArray) (r : Bool) (w : World) (h : quillworkref05_Link.f k a0 = some r) :
    Calls Tryd.prog 107 #[.string a0] w fun e w' => e = .returned (.bool r) ∧ Below w.heap.size w w' := by
  have HB := Aside0.mk (Below.refl w.heap.size w)
  have H : (if a0.toList = ([] : List UInt8) then (some true) else ((quillworkref03_Target.f k a0).bind fun t208 => (some t208))) = some r := h
  clear h
  by_cases c2 : a0.toList = ([] : List UInt8)
  · rw [if_pos c2] at H
    have c2b0 : (a0.toList == ([] : List UInt8)) = true := beq_iff_eq.mpr c2
    have c2b1 : (a0.toList != ([] : List UInt8)) = false := bne_eq_false_iff_eq.mpr c2
    clear c2
    obtain rfl := Option.some.inj H
    go_enter Tryd.func107, Tryd.ntmps107
    go_wp2
    go_ret
    exact ⟨by first | rfl | (simp [errW_none, errW_some] <;> rfl) | (simp [*, errW_none, errW_some] <;> rfl), by repeat (first | (with_reducible first | exact HB.out | apply below_alloc | apply pw_below_drewN | apply below_drew1) | exact HB.out)⟩
  · rw [if_neg c2] at H
    have c2b0 : (a0.toList == ([] : List UInt8)) = false := beq_eq_false_iff_ne.mpr c2
    have c2b1 : (a0.toList != ([] : List UInt8)) = true := bne_iff_ne.mpr c2
    replace H := Option.bind_eq_some_iff.mp H
    obtain ⟨t208, A30, H⟩ := H
    replace H : (some t208) = some r := H
    have A3 := Aside0.mk A30
    clear A30
    obtain rfl := Option.some.inj H
    go_enter Tryd.func107, Tryd.ntmps107
    go_wp2_with (first | (go_at_call 131; (with_reducible refine (quillworkref03_Target.calls k a0 t208 _ A3.out).mono ?_); rintro e w4 ⟨rfl, hb⟩; have n0_ := Aside0.mk (below_step (by repeat (first | (with_reducible first | exact HB.out | apply below_alloc | apply pw_below_drewN | apply below_drew1) | exact HB.out)) hb); clear HB; have HB := n0_; clear n0_; (try clear hb); (try clear hb2); (try clear hk); (try clear hi)))
    go_ret
    exact ⟨by first | rfl | (simp [errW_none, errW_some] <;> rfl) | (simp [*, errW_none, errW_some] <;> rfl), by repeat (first | (with_reducible first | exact HB.out | apply below_alloc | apply pw_below_drewN | apply below_drew1) | exact HB.out)⟩

end Go.Proofs.YtgdpknmffohhaaaDoor.Pl

namespace Go.Proofs.YtgdpknmffohhaaaDoor.Pl
open Go.RowKit Go.Proofs.YtgdpknmffohhaaaDoorW.PrintWords Go.Proofs.YtgdpknmffohhaaaDoorW.PrintLast Go.Proofs.YtgdpknmffohhaaaDoorW.PrintMore
attribute [local go_sem] max2_int min2_int max_two min_two max_three min_three max_four min_four   -- for this text's walks alone
set_option linter.unusedVariables false
set_option linter.unusedSimpArgs false

/-! ### lib_cellset -/
def spanned_ {α : Type} (l : List α) (a b : Int) : Prop := 0 ≤ a ∧ a ≤ b ∧ b ≤ (l.length : Int)
instance {α : Type} (l : List α) (a b : Int) : Decidable (spanned_ l a b) := by unfold spanned_; infer_instance
theorem rd_at_ {xs : List S71} {k : Nat} (hk : k < xs.length) : xs[k]? = some (rd_T71 xs (k : Int)) := by
  unfold rd_T71
  rw [Int.toNat_natCast, List.getD_eq_getElem?_getD, List.getElem?_eq_getElem hk]
  rfl

end Go.Proofs.YtgdpknmffohhaaaDoor.Pl

namespace Go.Proofs.YtgdpknmffohhaaaDoor.Pl
open Go.RowKit Go.Proofs.YtgdpknmffohhaaaDoorW.PrintWords Go.Proofs.YtgdpknmffohhaaaDoorW.PrintLast Go.Proofs.YtgdpknmffohhaaaDoorW.PrintMore
attribute [local go_sem] max2_int min2_int max_two min_two max_three min_three max_four min_four   -- for this text's walks alone
set_option linter.unusedVariables false
set_option linter.unusedSimpArgs false

/-! ### lib_rows -/
theorem infoC_ : ∃ i, Tryd.prog.info? 71 = some i ∧ i.size = 3 := by
  obtain ⟨i, hi, h⟩ := Option.map_eq_some_iff.1 info71
  simp only [Prod.mk.injEq] at h
  exact ⟨i, hi, h.2.1⟩
theorem dropC_ (A : Option Addr) (l : List S71) (c p : Nat) (hp : p ≤ l.length) (hc : l.length ≤ c) : ∃ (A1 : Option Addr) (c1 : Nat), (∀ W : World, (Instr.slice 36 (.slice A l.length c) (some (.int .i64 (p : Int))) none none).run Tryd.prog W = .ok (.slice A1 (l.length - p) c1) W) ∧ (l.drop p).length ≤ c1 ∧ ∀ w : World, Kd.C k71 w A l.length l → Kd.C k71 w A1 (l.drop p).length (l.drop p) := by
  obtain ⟨i, hi, hsz⟩ := infoC_
  refine ⟨if c = p then A else A.map (·.add (p * 3)), c - p, fun W => ?_, by rw [List.length_drop]; omega, fun w h => ?_⟩
  · have h := cut_from (P := Tryd.prog) 36 71 .i64 Tryd.underlying36 hi 3 hsz A l.length c (p : Int) (by omega) (by omega) W
    rwa [Int.toNat_natCast] at h
  · exact Kd.C_drop h hp hc
end Go.Proofs.YtgdpknmffohhaaaDoor.Pl

namespace Go.Proofs.YtgdpknmffohhaaaDoor.Pl
open Go.RowKit Go.Proofs.YtgdpknmffohhaaaDoorW.PrintWords Go.Proofs.YtgdpknmffohhaaaDoorW.PrintLast Go.Proofs.YtgdpknmffohhaaaDoorW.PrintMore
attribute [local go_sem] max2_int min2_int max_two min_two max_three min_three max_four min_four   -- for this text's walks alone
set_option linter.unusedVariables false
set_option linter.unusedSimpArgs false

/-! ### lib_index -/
/-- what a predicate handed to the library comes to at these elements, whatever was made behind w -/
def Tells_ {α : Type} (arg : α → Value) (w : World) (g : Nat) (lb : Array Value) (p : α → Bool) (l : List α) : Prop :=
  ∀ x ∈ l, ∀ W, Below w.heap.size w W → Calls Tryd.prog g (#[arg x] ++ lb) W fun e W' => e = .returned (.bool (p x)) ∧ Below W.heap.size W W'
def argC_ (x : S71) : Value := .agg #[.int .i32 x.f0, .int .i64 x.f1, .string x.f2]
set_option maxHeartbeats 4000000 in
theorem indexC_ (A0 : Option Addr) (c0 : Nat) (l0 : List S71) (g : Nat) (lb : Array Value) (p : S71 → Bool) (w : World) (hr0 : Kd.C k71 w A0 l0.length l0) (hc0 : l0.length ≤ c0) (eg : ∀ args w, (callFunc g args).run Tryd.prog w = .ok (.enter g args) w)
    (hf : Tells_ argC_ w g lb p l0) : Calls Tryd.prog 132 #[.slice A0 l0.length c0, .func (.func g) #[] lb] w fun e w' => (∃ i : Int, e = .returned (.int .i64 i) ∧ decide (0 ≤ i) = l0.any p) ∧ Below w.heap.size w w' := by
  have HR0 := Aside0.mk hr0
  have HF := Aside0.mk hf
  have HB := Aside0.mk (Below.refl w.heap.size w)
  have hlen : l0.length ≤ 9223372036854775807 := hr0.2.1
  have hu30 := Tryd.underlying71
  clear hr0 hf
  go_enter Tryd.func132, Tryd.ntmps132
  go_wp2
  go_loopw [8] (fun v wr => ∃ k : Nat, v = .int .i64 (k : Int) ∧ k ≤ l0.length ∧ Aside0 (∀ j, j < k → p (rd_T71 l0 (j : Int)) = false) ∧ Aside0 (Below w.heap.size w wr)) (fun v _ => l0.length - (intOf v).toNat)
  case atStart => exact ⟨0, rfl, Nat.zero_le _, ⟨fun j hj => absurd hj (Nat.not_lt_zero _)⟩, HB⟩
  case round =>
    clear HB
    obtain ⟨k, rfl, hk, HN, HB⟩ := hrel
    by_cases hlt : k < l0.length
    · obtain ⟨ad, e, h0, h1, h2⟩ := at_T71 HR0.out (k : Int) (by omega) (by omega)
      cases e
      replace h0 := (HB.out.cell (World.block_lt_of_cell? w _ h0)).trans h0
      replace h1 := (HB.out.cell (World.block_lt_of_cell? w _ h1)).trans h1
      replace h2 := (HB.out.cell (World.block_lt_of_cell? w _ h2)).trans h2
      rw [Int.toNat_natCast] at h0 h1 h2
      have hm : rd_T71 l0 (k : Int) ∈ l0 := List.mem_of_getElem? (rd_at_ hlt)
      generalize hx : rd_T71 l0 (k : Int) = x at h0 h1 h2 hm
      have HF1 := Aside0.mk (HF.out x hm)
      clear hm
      cases hp : p x with
      | true =>
        have HY := Aside0.mk (show l0.any p = true from List.any_eq_true.2 ⟨x, by rw [← hx]; exact List.mem_of_getElem? (rd_at_ hlt), hp⟩)
        go_wp2_with (go_at_fn g; refine (HF1.out _ HB.out).mono ?_; rw [hp]; rintro e w' ⟨rfl, hb⟩; have HB' := Aside0.mk hb; clear hb)
        go_ret
        exact ⟨⟨(k : Int), rfl, by rw [HY.out, decide_eq_true (by omega)]⟩, HB.out.trans (HB'.out.mono HB.out.size)⟩
      | false =>
        go_wp2_with (go_at_fn g; refine (HF1.out _ HB.out).mono ?_; rw [hp]; rintro e w' ⟨rfl, hb⟩; have HB' := Aside0.mk hb; clear hb)
        go_roundw
        case rel => exact ⟨k + 1, by go_num, by omega, ⟨fun j hj => by
          by_cases h : j = k
          · rw [h, hx]; exact hp
          · exact HN.out j (by omega)⟩, ⟨HB.out.trans (HB'.out.mono HB.out.size)⟩⟩
        case measure => simp [intOf]; omega
    · have HY := Aside0.mk (show l0.any p = false by
        rw [List.any_eq_false]
        intro y hy
        obtain ⟨j, hj, rfl⟩ := List.getElem_of_mem hy
        have := HN.out j (by omega)
        have e2 := rd_at_ (xs := l0) hj
        rw [List.getElem?_eq_getElem hj] at e2
        have e3 := Option.some.inj e2
        rw [← e3] at this
        simpa using this)
      go_wp2
      go_ret
      exact ⟨⟨-1, rfl, by rw [HY.out]; rfl⟩, HB.out⟩
set_option maxHeartbeats 4000000 in
theorem containsC_ (A0 : Option Addr) (c0 : Nat) (l0 : List S71) (g : Nat) (lb : Array Value) (p : S71 → Bool) (w : World) (hr0 : Kd.C k71 w A0 l0.length l0) (hc0 : l0.length ≤ c0) (eg : ∀ args w, (callFunc g args).run Tryd.prog w = .ok (.enter g args) w)
    (hf : Tells_ argC_ w g lb p l0) : Calls Tryd.prog 109 #[.slice A0 l0.length c0, .func (.func g) #[] lb] w fun e w' => e = .returned (.bool (l0.any p)) ∧ Below w.heap.size w w' := by
  have HI := Aside0.mk (indexC_ A0 c0 l0 g lb p w hr0 hc0 eg hf)
  clear hr0 hf
  go_enter Tryd.func109, Tryd.ntmps109
  go_wp2_with (go_at_call 132; refine HI.out.mono ?_; rintro e w' ⟨⟨i, rfl, hi⟩, hb⟩; have HB := Aside0.mk hb; have HD := Aside0.mk hi; clear hb hi)
  go_ret
  exact ⟨by rw [HD.out]; rfl, HB.out⟩
end Go.Proofs.YtgdpknmffohhaaaDoor.Pl

namespace Go.Proofs.YtgdpknmffohhaaaDoor.Pl
open Go.RowKit Go.Proofs.YtgdpknmffohhaaaDoorW.PrintWords Go.Proofs.YtgdpknmffohhaaaDoorW.PrintLast Go.Proofs.YtgdpknmffohhaaaDoorW.PrintMore
attribute [local go_sem] max2_int min2_int max_two min_two max_three min_three max_four min_four   -- for this text's walks alone
set_option linter.unusedVariables false
set_option linter.unusedSimpArgs false

/-! ### attrs_Target: function 130 (given) -/
theorem tabs_below_ {g3 g4 : Nat} {w wr : World} (hT : Lib.Utf8Tabs g3 g4 w) (hbw : Below w.heap.size w wr) : Lib.Utf8Tabs g3 g4 wr :=
  ⟨fun c hc => (hbw.cell (World.block_lt_of_cell? w _ (hT.1 c hc))).trans (hT.1 c hc), fun i hi => ⟨(hbw.cell (World.block_lt_of_cell? w _ (hT.2 i hi).1)).trans (hT.2 i hi).1, (hbw.cell (World.block_lt_of_cell? w _ (hT.2 i hi).2)).trans (hT.2 i hi).2⟩⟩
def low_ (c : Int) : Int := if 65 ≤ c ∧ c ≤ 90 then c + 32 else c
set_option maxHeartbeats 4000000 in
theorem low_calls_ (c : Int) (hc : 0 ≤ c ∧ c ≤ 1114111) (w : World) : Calls Tryd.prog 143 #[.int .i32 c] w fun e w' => e = .returned (.int .i32 (low_ c)) ∧ Below w.heap.size w w' := by
  unfold low_
  by_cases h1 : 65 ≤ c
  · have h1b : decide (65 ≤ c) = true := decide_eq_true h1
    by_cases h2 : c ≤ 90
    · have h2b : decide (c ≤ 90) = true := decide_eq_true h2
      rw [if_pos ⟨h1, h2⟩]
      go_enter Tryd.func143, Tryd.ntmps143
      have hw : wrap32 (c + 32) = c + 32 := by unfold wrap32; omega
      go_wp2
      go_ret
      exact ⟨rfl, Below.refl _ _⟩
    · have h2b : decide (c ≤ 90) = false := decide_eq_false h2
      rw [if_neg (by omega)]
      go_enter Tryd.func143, Tryd.ntmps143
      go_wp2
      go_ret
      exact ⟨rfl, Below.refl _ _⟩
  · have h1b : decide (65 ≤ c) = false := decide_eq_false h1
    rw [if_neg (by omega)]
    go_enter Tryd.func143, Tryd.ntmps143
    go_wp2
    go_ret
    exact ⟨rfl, Below.refl _ _⟩
theorem low_fits_ (x : Nat) (h : x ≤ 1114111) : -2147483648 ≤ low_ x ∧ low_ x ≤ 2147483647 := by
  unfold low_
  split <;> omega
def head_ (s : ByteArray) : ByteArray := ⟨(Lib.cut s.data.toList [58]).1.toArray⟩
def lowed_ (s : ByteArray) : ByteArray := ⟨(Lib.mapD low_ (head_ s).data.toList).toArray⟩
def script_ (s : ByteArray) : Bool := (lowed_ s).toList == [106, 97, 118, 97, 115, 99, 114, 105, 112, 116]
def ends_ (s : ByteArray) : Bool := if h : 0 < s.size then (decide (¬ ((s[0]'h).toNat : Int) = 32) && decide (¬ ((s[s.size - 1]'(by omega)).toNat : Int) = 32)) else false
def target_ (s : ByteArray) : Bool := isValue_ s && (ends_ s && !script_ s)
theorem empty_size_ (s : ByteArray) (h : s.toList = []) : s.size = 0 := by
  rw [ByteArray.toList_eq] at h
  rw [← data_length, h]
  rfl
theorem size_empty_ (s : ByteArray) (h : s.size = 0) : s.toList = [] := by
  rw [ByteArray.toList_eq]
  exact List.eq_nil_of_length_eq_zero (by rw [data_length, h])
theorem head_size_ (s : ByteArray) : (head_ s).size ≤ s.size := by
  rw [← data_length, ← data_length]
  unfold head_ Lib.cut
  split
  · simp
    omega
  · simp
set_option maxRecDepth 100000 in
set_option maxHeartbeats 4000000 in
theorem target_calls_ (s : ByteArray) (w : World) (m : Int) (hs : s.size < 4294967281) (hT : Lib.Utf8Tabs 0 1 w) (hm : w.cell? ⟨2, 0, none⟩ = some (.int .i64 m)) :
    Calls Tryd.prog 130 #[.string s] w fun e w' => e = .returned (.bool (target_ s)) ∧ Below w.heap.size w w' := by
  have hS : (head_ s).size < 35184372088832 := by have := head_size_ s; omega
  have hM : ∀ w, MapGrows Tryd.prog 143 #[] low_ w := fun w W x hx hb => low_calls_ x (by omega) W
  have HM := Aside0.mk (fun nd => (Tryd.strings_Map_grows 143 #[] (enters_of Tryd.func143 (by kernel_rfl) rfl) low_ (head_ s) (w.drewN nd) hS (hM _) low_fits_ hT).mono fun e w' (h : _ ∧ _) => (⟨h.1, (pw_below_drewN (Below.refl w.heap.size w) nd).trans h.2⟩ : e = .returned (.string (lowed_ s)) ∧ Below w.heap.size w w'))
  have HV := Aside0.mk (fun W (hW : Below w.heap.size w W) => value_calls_ s W (by omega) (tabs_below_ hT hW))
  clear hS hM hT
  unfold target_
  cases hb : isValue_ s with
  | false =>
    rw [hb] at HV
    clear hb
    go_enter Tryd.func130, Tryd.ntmps130
    go_wp2_with (first | (go_at_call 141; refine (Tryd.strings_Cut s ⟨#[58]⟩ m _ hs hm).mono ?_; rintro e w' ⟨rfl, ⟨nd, rfl⟩⟩) | (go_at_call 142; refine (HM.out _).mono ?_; rintro e w' ⟨rfl, hb⟩; have HB := Aside0.mk hb; clear hb) | (go_at_call 144; refine (HV.out _ HB.out).mono ?_; rintro e w' ⟨rfl, hb⟩; have HB2 := Aside0.mk hb; clear hb))
    go_ret
    exact ⟨rfl, HB.out.trans (HB2.out.mono HB.out.size)⟩
  | true =>
    rw [hb] at HV
    clear hb
    by_cases h0 : 0 < s.size
    · have hE := Aside0.mk (show ends_ s = (decide (¬ ((s[0]'h0).toNat : Int) = 32) && decide (¬ ((s[s.size - 1]'(by omega)).toNat : Int) = 32)) by unfold ends_; rw [dif_pos h0])
      go_enter Tryd.func130, Tryd.ntmps130
      go_wp2_with (first | (go_at_call 141; refine (Tryd.strings_Cut s ⟨#[58]⟩ m _ hs hm).mono ?_; rintro e w' ⟨rfl, ⟨nd, rfl⟩⟩) | (go_at_call 142; refine (HM.out _).mono ?_; rintro e w' ⟨rfl, hb⟩; have HB := Aside0.mk hb; clear hb) | (go_at_call 144; refine (HV.out _ HB.out).mono ?_; rintro e w' ⟨rfl, hb⟩; have HB2 := Aside0.mk hb; clear hb))
      · rename_i he
        exact absurd (empty_size_ s he) (by omega)
      · rename_i he h1
        go_ret
        exact ⟨by rw [hE.out, decide_eq_false (fun h => h h1)]; rfl, HB.out.trans (HB2.out.mono HB.out.size)⟩
      · rename_i he h1 hx h2
        go_ret
        exact ⟨by rw [hE.out, decide_eq_true h1, decide_eq_false (fun h => h h2)]; rfl, HB.out.trans (HB2.out.mono HB.out.size)⟩
      · rename_i he h1 hx h2
        go_ret
        exact ⟨by rw [hE.out]; simp [he, h1, h2, script_], HB.out.trans (HB2.out.mono HB.out.size)⟩
    · have hE := Aside0.mk (show ends_ s = false by unfold ends_; rw [dif_neg h0])
      have he := size_empty_ s (by omega)
      go_enter Tryd.func130, Tryd.ntmps130
      go_wp2_with (first | (go_at_call 141; refine (Tryd.strings_Cut s ⟨#[58]⟩ m _ hs hm).mono ?_; rintro e w' ⟨rfl, ⟨nd, rfl⟩⟩) | (go_at_call 142; refine (HM.out _).mono ?_; rintro e w' ⟨rfl, hb⟩; have HB := Aside0.mk hb; clear hb) | (go_at_call 144; refine (HV.out _ HB.out).mono ?_; rintro e w' ⟨rfl, hb⟩; have HB2 := Aside0.mk hb; clear hb))
      go_ret
      exact ⟨by rw [hE.out]; rfl, HB.out.trans (HB2.out.mono HB.out.size)⟩

end Go.Proofs.YtgdpknmffohhaaaDoor.Pl

namespace Go.Proofs.YtgdpknmffohhaaaDoor.Pl
open Go.RowKit Go.Proofs.YtgdpknmffohhaaaDoorW.PrintWords Go.Proofs.YtgdpknmffohhaaaDoorW.PrintLast Go.Proofs.YtgdpknmffohhaaaDoorW.PrintMore
attribute [local go_sem] max2_int min2_int max_two min_two max_three min_three max_four min_four   -- for this text's walks alone
set_option linter.unusedVariables false
set_option linter.unusedSimpArgs false

/-! ### cells_May: function 66 (given) -/
/-- what the text of the library reads of the program's variables -/
def Gl_ (w : World) : Prop := Lib.Utf8Tabs 0 1 w ∧ ∃ m, w.cell? ⟨2, 0, none⟩ = some (.int .i64 m)
theorem Gl_.below {w W : World} (h : Gl_ w) (hW : Below w.heap.size w W) : Gl_ W :=
  ⟨tabs_below_ h.1 hW, by obtain ⟨m, hm⟩ := h.2; exact ⟨m, (hW.cell (World.block_lt_of_cell? w _ hm)).trans hm⟩⟩
theorem Gl_.at_ {w W : World} (h : Aside0 (Gl_ w)) (hW : Aside0 (Below w.heap.size w W)) : Gl_ W := h.out.below hW.out
def link_ (s : ByteArray) : Bool := s.toList.isEmpty || target_ s
set_option maxHeartbeats 4000000 in
theorem link_calls_ (s : ByteArray) (w : World) (hs : s.size < 4294967281) (hG : Gl_ w) : Calls Tryd.prog 105 #[.string s] w fun e w' => e = .returned (.bool (link_ s)) ∧ Below w.heap.size w w' := by
  obtain ⟨hT, m, hm⟩ := hG
  have HT := Aside0.mk (target_calls_ s w m hs hT hm)
  clear hT hm
  unfold link_
  cases he : s.toList.isEmpty with
  | true =>
    have he2 : (s.toList == ([] : List UInt8)) = true := by simpa using he
    go_enter Tryd.func105, Tryd.ntmps105
    go_wp2
    go_ret
    exact ⟨by simp [he], Below.refl _ _⟩
  | false =>
    have he2 : (s.toList == ([] : List UInt8)) = false := by simpa using he
    go_enter Tryd.func105, Tryd.ntmps105
    go_wp2_with (go_at_call 130; refine HT.out.mono ?_; rintro e w' ⟨rfl, hb⟩; have HB := Aside0.mk hb; clear hb)
    go_ret
    exact ⟨by simp [he], HB.out⟩
def bad_ (x : S71) : Bool := (!(mayR_ x.f0) && x.f0 != 10) || (decide (x.f1 < 0) || (decide (15 < x.f1) || !(link_ x.f2)))
set_option maxRecDepth 100000 in
set_option maxHeartbeats 4000000 in
theorem bad_calls_ (x : S71) (w : World) (hs : x.f2.size < 4294967281) (hG : Gl_ w) : Calls Tryd.prog 113 #[argC_ x] w fun e w' => e = .returned (.bool (bad_ x)) ∧ Below w.heap.size w w' := by
  have hu30 := Tryd.underlying71
  have HL := Aside0.mk (fun W (hW : Below w.heap.size w W) => link_calls_ x.f2 W hs (hG.below hW))
  have HM := Aside0.mk (fun W => chars_May.calls 20 x.f0 (mayR_ x.f0) W (may_is_ x.f0))
  clear hG
  unfold argC_
  cases hm : mayR_ x.f0 with
  | true =>
    rw [hm] at HM
    go_enter Tryd.func113, Tryd.ntmps113
    go_wp2_with (first | (go_at_call 114; refine (HM.out _).mono ?_; rintro e w' ⟨rfl, ⟨nd, rfl⟩⟩) | (go_at_call 105; refine (HL.out _ (by repeat (first | exact Below.refl _ _ | apply below_alloc | apply pw_below_drewN))).mono ?_; rintro e w' ⟨rfl, hb⟩; have HB := Aside0.mk hb; clear hb))
    all_goals
      go_ret
      first
      | exact ⟨by simp [bad_, Bool.or_assoc, *], (pw_below_drewN (below_alloc (Below.refl _ _) _) _).trans (HB.out.mono (by simp))⟩
      | exact ⟨by simp [bad_, Bool.or_assoc, *], pw_below_drewN (below_alloc (Below.refl _ _) _) _⟩
      | (exfalso; omega)
  | false =>
    rw [hm] at HM
    by_cases h10 : x.f0 = 10
    · have h10b : (x.f0 != 10) = false := bne_eq_false_iff_eq.mpr h10
      clear h10
      go_enter Tryd.func113, Tryd.ntmps113
      go_wp2_with (first | (go_at_call 114; refine (HM.out _).mono ?_; rintro e w' ⟨rfl, ⟨nd, rfl⟩⟩) | (go_at_call 105; refine (HL.out _ (by repeat (first | exact Below.refl _ _ | apply below_alloc | apply pw_below_drewN))).mono ?_; rintro e w' ⟨rfl, hb⟩; have HB := Aside0.mk hb; clear hb))
      all_goals
        go_ret
        first
        | exact ⟨by simp [bad_, Bool.or_assoc, *], (pw_below_drewN (below_alloc (Below.refl _ _) _) _).trans (HB.out.mono (by simp))⟩
        | exact ⟨by simp [bad_, Bool.or_assoc, *], pw_below_drewN (below_alloc (Below.refl _ _) _) _⟩
        | (exfalso; omega)
    · have h10b : (x.f0 != 10) = true := bne_iff_ne.mpr h10
      clear h10
      go_enter Tryd.func113, Tryd.ntmps113
      go_wp2_with (first | (go_at_call 114; refine (HM.out _).mono ?_; rintro e w' ⟨rfl, ⟨nd, rfl⟩⟩) | (go_at_call 105; refine (HL.out _ (by repeat (first | exact Below.refl _ _ | apply below_alloc | apply pw_below_drewN))).mono ?_; rintro e w' ⟨rfl, hb⟩; have HB := Aside0.mk hb; clear hb))
      all_goals
        go_ret
        first
        | exact ⟨by simp [bad_, Bool.or_assoc, *], (pw_below_drewN (below_alloc (Below.refl _ _) _) _).trans (HB.out.mono (by simp))⟩
        | exact ⟨by simp [bad_, Bool.or_assoc, *], pw_below_drewN (below_alloc (Below.refl _ _) _) _⟩
        | (exfalso; omega)
def cells_May.f (l0 : List S71) : Option Bool := if (l0.all fun x => decide (x.f2.size < 4294967281)) = true then some (!(l0.any bad_)) else none
set_option maxHeartbeats 4000000 in
theorem cells_May.calls (A0 : Option Addr) (c0 : Nat) (l0 : List (S71)) (r : Bool) (w : World) (hr0 : Kd.C k71 w A0 l0.length l0) (hc0 : l0.length ≤ c0) (h : cells_May.f l0 = some r) (hG : Gl_ w := by first | exact Aside0.out (by assumption) | exact Gl_.at_ (by assumption) ⟨by repeat (first | exact Aside0.out (by assumption) | apply below_alloc | apply pw_below_drewN | apply below_drew1)⟩) :
    Calls Tryd.prog 66 #[.slice A0 l0.length c0] w fun e w' => e = .returned (.bool r) ∧ Below w.heap.size w w' := by
  unfold cells_May.f at h
  by_cases hl : (l0.all fun x => decide (x.f2.size < 4294967281)) = true
  · rw [if_pos hl] at h
    obtain rfl := Option.some.inj h
    clear h
    have HK := Aside0.mk (containsC_ A0 c0 l0 113 #[] bad_ w hr0 hc0 (enters_of Tryd.func113 (by kernel_rfl) rfl)
      (fun x hx W hW => bad_calls_ x W (of_decide_eq_true (List.all_eq_true.1 hl x hx)) (hG.below hW)))
    clear hr0 hG hl
    go_enter Tryd.func66, Tryd.ntmps66
    go_wp2_with (go_at_call 109; refine HK.out.mono ?_; rintro e w' ⟨rfl, hb⟩; have HB := Aside0.mk hb; clear hb)
    go_ret
    exact ⟨rfl, HB.out⟩
  · rw [if_neg hl] at h
    exact absurd h (by simp)

end Go.Proofs.YtgdpknmffohhaaaDoor.Pl

/- The reference's target is the program's. -/
namespace Go.Proofs.YtgdpknmffohhaaaDoor.Pl
open Go.RowKit Go.Lib Go.Proofs.YtgdpknmffohhaaaDoorW.PrintWords Go.Proofs.YtgdpknmffohhaaaDoorW.PrintLast Go.Proofs.YtgdpknmffohhaaaDoorW.PrintMore
set_option linter.unusedVariables false
def twC_ (l : List UInt8) : List UInt8 := l.takeWhile (fun b => b != 58)
def lowb_ (b : UInt8) : UInt8 := if 65 ≤ b.toNat ∧ b.toNat ≤ 90 then b + 32 else b
theorem twC_le_ (l : List UInt8) : (twC_ l).length ≤ l.length := by
  unfold twC_
  exact (List.takeWhile_prefix _).length_le
theorem index_tw_ : ∀ l : List UInt8, Lib.index l [58] = if (twC_ l).length = l.length then -1 else ((twC_ l).length : Int)
  | [] => rfl
  | b :: l => by
    have ih := index_tw_ l
    have hle := twC_le_ l
    by_cases hb : b = 58
    · subst hb
      rw [show twC_ (58 :: l) = [] from by simp [twC_]]
      rw [if_neg (by simp)]
      rfl
    · have h1 : twC_ (b :: l) = b :: twC_ l := by unfold twC_; rw [List.takeWhile_cons, if_pos (by simpa using hb)]
      have h2 : ([58] : List UInt8).isPrefixOf (b :: l) = false := by
        simp [List.isPrefixOf, beq_eq_false_iff_ne.2 (Ne.symm hb)]
      have h3 : Lib.index (b :: l) [58] = if Lib.index l [58] == -1 then -1 else Lib.index l [58] + 1 := by
        show (if ([58] : List UInt8).isPrefixOf (b :: l) = true then 0 else _) = _
        rw [h2]
        rfl
      rw [h3, h1, ih, List.length_cons, List.length_cons]
      by_cases he : (twC_ l).length = l.length
      · rw [if_pos he]
        rw [if_pos (show ((-1 : Int) == -1) = true by decide), if_pos (by omega)]
      · rw [if_neg he]
        rw [if_neg (by intro h; rw [beq_iff_eq] at h; omega), if_neg (by omega)]
        omega
theorem cut_tw_ (l : List UInt8) : (Lib.cut l [58]).1 = twC_ l := by
  unfold Lib.cut
  rw [index_tw_]
  have hle := twC_le_ l
  by_cases he : (twC_ l).length = l.length
  · rw [if_pos he, if_neg (by decide)]
    exact ((List.takeWhile_prefix _).eq_of_length he).symm
  · rw [if_neg he, if_pos (by omega), Int.toNat_natCast]
    exact (List.prefix_iff_eq_take.1 (List.takeWhile_prefix _)).symm
theorem low_byte_ (b : UInt8) (h : b.toNat < 128) : Lib.encodeRune (low_ (b.toNat : Int)) = [lowb_ b] := by
  unfold low_ lowb_
  by_cases hc : 65 ≤ b.toNat ∧ b.toNat ≤ 90
  · rw [if_pos (by omega), if_pos hc]
    unfold Lib.encodeRune
    rw [Lib.encodeRuneZ_one (by omega) (by omega)]
    show [((b.toNat : Int) + 32).toNat.toUInt8] = [b + 32]
    rw [show ((b.toNat : Int) + 32).toNat = b.toNat + 32 by omega]
    simp
  · rw [if_neg (by omega), if_neg hc]
    unfold Lib.encodeRune
    rw [Lib.encodeRuneZ_one (by omega) (by omega)]
    show [((b.toNat : Int)).toNat.toUInt8] = [b]
    rw [Int.toNat_natCast]
    congr 1
    apply UInt8.toNat_inj.1
    simp
theorem low_far_ (b : UInt8) (t : List UInt8) (h : 128 ≤ b.toNat) : ∃ c u, Lib.encodeRune (low_ ((Lib.decodeL (b :: t)).1 : Int)) = c :: u ∧ 128 ≤ c.toNat := by
  have hr : 128 ≤ (Lib.decodeL (b :: t)).1 := by
    rw [Lib.decodeL_N]
    have k0 : ((b :: t).getD 0 0).toNat = b.toNat := rfl
    rw [k0]
    rcases Lib.decodeN_shape (b :: t).length b.toNat ((b :: t).getD 1 0).toNat ((b :: t).getD 2 0).toNat ((b :: t).getD 3 0).toNat with ⟨c, e⟩ | ⟨_, _, _, c, e⟩ | ⟨_, _, _, _, c, _, e⟩ | ⟨_, _, _, _, _, c, _, e⟩ | e
    · omega
    · rw [e]; exact c
    · rw [e]; dsimp only; omega
    · rw [e]; dsimp only; omega
    · rw [e]; decide
  have hm := Lib.decodeL_rune (b :: t)
  generalize (Lib.decodeL (b :: t)).1 = r at hr hm
  have hl : low_ (r : Int) = (r : Int) := by unfold low_; rw [if_neg (by omega)]
  rw [hl]
  unfold Lib.encodeRune
  by_cases h1 : r ≤ 2047
  · rw [Lib.encodeRuneZ_two (by omega) (by omega)]
    refine ⟨_, _, rfl, ?_⟩
    dsimp only
    rw [show (192 + (r : Int) / 64).toNat = 192 + r / 64 by omega]
    simp
    omega
  · by_cases h2 : r < 55296 ∨ (57343 < r ∧ r ≤ 65535)
    · rw [Lib.encodeRuneZ_three (by omega)]
      refine ⟨_, _, rfl, ?_⟩
      dsimp only
      rw [show (224 + (r : Int) / 4096).toNat = 224 + r / 4096 by omega]
      simp
      omega
    · by_cases h3 : 65536 ≤ r
      · rw [Lib.encodeRuneZ_four (by omega) (by omega)]
        refine ⟨_, _, rfl, ?_⟩
        dsimp only
        rw [show (240 + (r : Int) / 262144).toNat = 240 + r / 262144 by omega]
        simp
        omega
      · rw [Lib.encodeRuneZ_bad (by omega)]
        exact ⟨_, _, rfl, by decide⟩
theorem lowb_far_ (b : UInt8) (h : 128 ≤ b.toNat) : lowb_ b = b := by unfold lowb_; rw [if_neg (by omega)]
theorem mapD_word_ : ∀ (l W : List UInt8), (∀ x ∈ W, x.toNat < 128) → (Lib.mapD low_ l = W ↔ l.map lowb_ = W)
  | [], W, _ => Iff.rfl
  | b :: t, W, hW => by
    rw [Lib.mapD_step _ _ (by simp), List.map_cons]
    by_cases hb : b.toNat < 128
    · rw [Lib.decodeL_ascii b t hb]
      dsimp only
      rw [if_pos (by unfold low_; split <;> omega), low_byte_ b hb]
      show lowb_ b :: Lib.mapD low_ t = W ↔ _
      cases W with
      | nil => simp
      | cons c W =>
        have ih := mapD_word_ t W (fun x hx => hW x (List.mem_cons_of_mem _ hx))
        rw [List.cons.injEq, List.cons.injEq, ih]
    · obtain ⟨c, u, e, hc⟩ := low_far_ b t (by omega)
      rw [if_pos (by unfold low_; split <;> omega), e, lowb_far_ b (by omega)]
      cases W with
      | nil => simp
      | cons d W =>
        have hd := hW d (List.mem_cons_self ..)
        constructor
        · intro h
          rw [List.cons_append, List.cons.injEq] at h
          rw [h.1] at hc
          omega
        · intro h
          rw [List.cons.injEq] at h
          rw [h.1] at hb
          omega
def wordJ_ : List UInt8 := [106, 97, 118, 97, 115, 99, 114, 105, 112, 116]
theorem script_is_ (s : ByteArray) : script_ s = ((twC_ s.data.toList).map lowb_ == wordJ_) := by
  have h : (lowed_ s).toList = Lib.mapD low_ (twC_ s.data.toList) := by
    rw [ByteArray.toList_eq]
    unfold lowed_ head_
    simp [cut_tw_]
  unfold script_
  rw [h]
  show (Lib.mapD low_ (twC_ s.data.toList) == wordJ_) = _
  have hi := mapD_word_ (twC_ s.data.toList) wordJ_ (by decide)
  rw [Bool.eq_iff_iff, beq_iff_eq, beq_iff_eq]
  exact hi
end Go.Proofs.YtgdpknmffohhaaaDoor.Pl

namespace Go.Proofs.YtgdpknmffohhaaaDoor.Pl
open Go.RowKit Go.Proofs.YtgdpknmffohhaaaDoorW.PrintWords Go.Proofs.YtgdpknmffohhaaaDoorW.PrintLast Go.Proofs.YtgdpknmffohhaaaDoorW.PrintMore
attribute [local go_sem] max2_int min2_int max_two min_two max_three min_three max_four min_four   -- for this text's walks alone
set_option linter.unusedVariables false
set_option linter.unusedSimpArgs false

/-! ### slices_Clone_int: function 86 (given) -/
def slices_Clone_int.f (l0 : List Int) : Option (List Int) := if l0.length < 17592186044416 then some l0 else none
set_option maxHeartbeats 1000000 in
theorem slices_Clone_int.calls (A0 : Option Addr) (c0 : Nat) (l0 : List Int) (r : List Int) (w : World) (hr0 : Kd.C (Kd.int .i64) w A0 l0.length l0) (hc0 : l0.length ≤ c0) (h : slices_Clone_int.f l0 = some r) :
    Calls Tryd.prog 86 #[.slice A0 l0.length c0] w fun e w' => ∃ v0_ : Value, e = .returned (v0_) ∧ Kd.R (Kd.int .i64) 3 w' w.heap.size (fun _ => True) v0_ r ∧ Below w.heap.size w w' := by
  have HR0 := Aside0.mk hr0
  clear hr0 hc0
  have HB := Aside0.mk (Below.refl w.heap.size w)
  have q : ∀ (w : World) (a : Option Addr) (n c n' c' : Nat), (binOp .eql 35 (.slice a n c) (.slice none n' c')).run Tryd.prog w = .ok (.bool a.isNone) w := fun w a n c n' c' => Lib.run_eql_slice_nil w _ _ a n c n' c' Tryd.underlying35
  unfold slices_Clone_int.f at h
  by_cases c2 : l0.length < 17592186044416
  · rw [if_pos c2] at h
    obtain rfl := Option.some.inj h
    have LM := Aside0.mk c2
    clear c2 h
    cases A0 with
    | none =>
      have h0 : l0 = [] := by
        rcases Nat.eq_zero_or_pos l0.length with h | h
        · exact List.eq_nil_of_length_eq_zero h
        · obtain ⟨ad, h, _⟩ := HR0.out.2.2 h
          cases h
      subst h0
      go_enter Tryd.func86, Tryd.ntmps86
      go_wp2
      go_ret
      exact ⟨_, rfl, Kd.R_nil _ _ _ _ _, Below.refl _ _⟩
    | some ad =>
      go_enter Tryd.func86, Tryd.ntmps86
      go_wp2_with (first | ((with_reducible refine gate_dst (N := 5) rfl ?_); refine Kd.R_lit (Kd.int .i64) _ 3 ?hg (N := 5) ?hd (xs := ([] : List Int)) (inner := []) (ok := fun _ => True) (okp := fun _ => True) ?hr ?hp (fun _ hk => hk) trivial (Below.refl _ _) (Nat.le_refl _) (by simp) ?_; (case hd => rfl); (case hg => rfl); (case hr => first | (go_simp; done) | (go_simp; rfl)); (case hp => exact (Reps.none _ _)); intro v148 w3 ho4 hb hg_ hnew_; clear hg_ hnew_; have n0_ := Aside0.mk (Kd.R_lower ho4 (below_size (by repeat (first | (with_reducible first | exact HB.out | apply below_alloc | apply pw_below_drewN | apply below_drew1) | exact HB.out)))); have n1_ := Aside0.mk (below_step (by repeat (first | (with_reducible first | exact HB.out | apply below_alloc | apply pw_below_drewN | apply below_drew1) | exact HB.out)) hb); clear HB; have HO149 := n0_; have HB := n1_; clear n0_ n1_; clear hb ho4) | ((with_reducible refine gate_builtin (b := .append) (xs := #[.tmp 5, .tmp 6]) rfl ?_); at_builtin; refine Kd.R_append_rows (Kd.int .i64) (w0 := w) w.heap.size rfl (.tmp 5) (.tmp 6) 35 3 (.int .i64 0) 8 rfl Tryd.underlying35 info3 rfl (by decide) (by omega) v148 ([] : List Int) l0 _ _ _ (fun _ => True) (fun _ => False) rfl rfl ?aO ?aR (fun _ _ h => h) (fun _ h => h.elim) ?aF ?aB ?aS ?aL ?_; (case aR => repeat (first | exact (Kd.C_below HR0.out HB.out) | (with_reducible refine Kd.C_alloc ?_ _) | (with_reducible refine Kd.C_drewN ?_ _) | (with_reducible refine Kd.C_drew ?_))); (case aB => exact (by repeat (first | (with_reducible first | exact HB.out | apply below_alloc | apply pw_below_drewN | apply below_drew1) | exact HB.out))); (case aF => exact (fun _ _ => trivial)); (case aO => exact (by (with_reducible repeat (first | apply Kd.R_alloc | apply Kd.R_drewN | apply Kd.R_drew)); exact HO149.out)); (case aS => exact (below_size (by repeat (first | (with_reducible first | exact HB.out | apply below_alloc | apply pw_below_drewN | apply below_drew1) | exact HB.out)))); (case aL => have h_ := LM.out; simp only [List.length_nil]; omega); intro v151 w5 ho hb hg hat; rw [List.nil_append] at ho; have n0_ := Aside0.mk (hb); have n1_ := Aside0.mk (ho); clear HB; clear HO149; have HB := n0_; have HO152 := n1_; clear n0_ n1_; clear ho hb hg hat))
      go_ret
      exact ⟨_, rfl, HO152.out, HB.out⟩
  · rw [if_neg c2] at h
    exact absurd h (by simp)

end Go.Proofs.YtgdpknmffohhaaaDoor.Pl

namespace Go.Proofs.YtgdpknmffohhaaaDoor.Pl
open Go.RowKit Go.Proofs.YtgdpknmffohhaaaDoorW.PrintWords Go.Proofs.YtgdpknmffohhaaaDoorW.PrintLast Go.Proofs.YtgdpknmffohhaaaDoorW.PrintMore
attribute [local go_sem] max2_int min2_int max_two min_two max_three min_three max_four min_four   -- for this text's walks alone
set_option linter.unusedVariables false
set_option linter.unusedSimpArgs false

/-! ### slices_Clone_Cell: function 87 (given) -/
def slices_Clone_Cell.f (l0 : List (S71)) : Option (List (S71)) := if l0.length < 4398046511104 then some l0 else none
set_option maxHeartbeats 1000000 in
theorem slices_Clone_Cell.calls (A0 : Option Addr) (c0 : Nat) (l0 : List (S71)) (r : List (S71)) (w : World) (hr0 : Kd.C k71 w A0 l0.length l0) (hc0 : l0.length ≤ c0) (h : slices_Clone_Cell.f l0 = some r) :
    Calls Tryd.prog 87 #[.slice A0 l0.length c0] w fun e w' => ∃ v0_ : Value, e = .returned (v0_) ∧ Kd.R k71 71 w' w.heap.size (fun _ => True) v0_ r ∧ Below w.heap.size w w' := by
  have HR0 := Aside0.mk hr0
  clear hr0 hc0
  have HB := Aside0.mk (Below.refl w.heap.size w)
  have q : ∀ (w : World) (a : Option Addr) (n c n' c' : Nat), (binOp .eql 36 (.slice a n c) (.slice none n' c')).run Tryd.prog w = .ok (.bool a.isNone) w := fun w a n c n' c' => Lib.run_eql_slice_nil w _ _ a n c n' c' Tryd.underlying36
  unfold slices_Clone_Cell.f at h
  by_cases c2 : l0.length < 4398046511104
  · rw [if_pos c2] at h
    obtain rfl := Option.some.inj h
    have LM := Aside0.mk c2
    clear c2 h
    cases A0 with
    | none =>
      have h0 : l0 = [] := by
        rcases Nat.eq_zero_or_pos l0.length with h | h
        · exact List.eq_nil_of_length_eq_zero h
        · obtain ⟨ad, h, _⟩ := HR0.out.2.2 h
          cases h
      subst h0
      go_enter Tryd.func87, Tryd.ntmps87
      go_wp2
      go_ret
      exact ⟨_, rfl, Kd.R_nil _ _ _ _ _, Below.refl _ _⟩
    | some ad =>
      go_enter Tryd.func87, Tryd.ntmps87
      go_wp2_with (first | ((with_reducible refine gate_dst (N := 5) rfl ?_); refine Kd.R_lit k71 _ 71 ?hg (N := 5) ?hd (xs := ([] : List (S71))) (inner := []) (ok := fun _ => True) (okp := fun _ => True) ?hr ?hp (fun _ hk => hk) trivial (Below.refl _ _) (Nat.le_refl _) (by simp) ?_; (case hd => rfl); (case hg => rfl); (case hr => first | (go_simp; done) | (go_simp; rfl)); (case hp => exact (Reps.none _ _)); intro v148 w3 ho4 hb hg_ hnew_; clear hg_ hnew_; have n0_ := Aside0.mk (Kd.R_lower ho4 (below_size (by repeat (first | (with_reducible first | exact HB.out | apply below_alloc | apply pw_below_drewN | apply below_drew1) | exact HB.out)))); have n1_ := Aside0.mk (below_step (by repeat (first | (with_reducible first | exact HB.out | apply below_alloc | apply pw_below_drewN | apply below_drew1) | exact HB.out)) hb); clear HB; have HO149 := n0_; have HB := n1_; clear n0_ n1_; clear hb ho4) | ((with_reducible refine gate_builtin (b := .append) (xs := #[.tmp 5, .tmp 6]) rfl ?_); at_builtin; refine Kd.R_append_rows k71 (w0 := w) w.heap.size rfl (.tmp 5) (.tmp 6) 36 71 (.agg #[(.int .i32 0), (.int .i64 0), (.string ⟨#[]⟩)]) 32 rfl Tryd.underlying36 info71 rfl (by decide) (by omega) v148 ([] : List S71) l0 _ _ _ (fun _ => True) (fun _ => False) rfl rfl ?aO ?aR (fun _ _ h => h) (fun _ h => h.elim) ?aF ?aB ?aS ?aL ?_; (case aR => repeat (first | exact (Kd.C_below HR0.out HB.out) | (with_reducible refine Kd.C_alloc ?_ _) | (with_reducible refine Kd.C_drewN ?_ _) | (with_reducible refine Kd.C_drew ?_))); (case aB => exact (by repeat (first | (with_reducible first | exact HB.out | apply below_alloc | apply pw_below_drewN | apply below_drew1) | exact HB.out))); (case aF => exact (fun _ _ => trivial)); (case aO => exact (by (with_reducible repeat (first | apply Kd.R_alloc | apply Kd.R_drewN | apply Kd.R_drew)); exact HO149.out)); (case aS => exact (below_size (by repeat (first | (with_reducible first | exact HB.out | apply below_alloc | apply pw_below_drewN | apply below_drew1) | exact HB.out)))); (case aL => have h_ := LM.out; simp only [List.length_nil]; omega); intro v151 w5 ho hb hg hat; rw [List.nil_append] at ho; have n0_ := Aside0.mk (hb); have n1_ := Aside0.mk (ho); clear HB; clear HO149; have HB := n0_; have HO152 := n1_; clear n0_ n1_; clear ho hb hg hat))
      go_ret
      exact ⟨_, rfl, HO152.out, HB.out⟩
  · rw [if_neg c2] at h
    exact absurd h (by simp)

end Go.Proofs.YtgdpknmffohhaaaDoor.Pl

/- Lines of a document: what a line's value says, read and written; what may be a line. -/
namespace Go.Proofs.YtgdpknmffohhaaaDoor.Pl
open Go.RowKit Go.Lib Go.Proofs.YtgdpknmffohhaaaDoorW.PrintWords Go.Proofs.YtgdpknmffohhaaaDoorW.PrintLast Go.Proofs.YtgdpknmffohhaaaDoorW.PrintMore
set_option linter.unusedVariables false
structure Ln where
  q : Int
  ls : List Int
  k : Int
  cs : List S71
/-- a row that is read -/
def Rd {α : Type} (d : Kd α) (W : World) (v : Value) (xs : List α) : Prop := ∃ A c, v = .slice A xs.length c ∧ d.C W A xs.length xs ∧ xs.length ≤ c
/-- a row that is read, of a block of its own, or a part of one -/
def Wr {α : Type} (d : Kd α) (e : Nat) (W : World) (base : Nat) (v : Value) (xs : List α) : Prop :=
  ∃ A c, v = .slice A xs.length c ∧ d.C W A xs.length xs ∧ xs.length ≤ c ∧ (0 < xs.length → ∃ g off cells, A = some ⟨g, off, none⟩ ∧ base ≤ g ∧ W.heap[g]? = some (.cells cells e (0, 0)))
section
variable {α : Type} {d : Kd α} {e : Nat} {W W1 : World} {base : Nat} {v : Value} {xs : List α}
theorem Rd.below (h : Rd d W v xs) (hb : Below W.heap.size W W1) : Rd d W1 v xs := by
  obtain ⟨A, c, e1, h1, h2⟩ := h
  exact ⟨A, c, e1, Kd.C_below h1 hb, h2⟩
theorem Rd_nil (d : Kd α) (W : World) : Rd d W (.slice none 0 0) [] := ⟨none, 0, rfl, ⟨rfl, by simp, fun h => absurd h (by simp)⟩, Nat.le_refl _⟩
theorem Rd.len (h : Rd d W v xs) : xs.length ≤ 9223372036854775807 := by
  obtain ⟨A, c, e1, h1, h2⟩ := h
  exact h1.2.1
theorem Wr.rd (h : Wr d e W base v xs) : Rd d W v xs := by
  obtain ⟨A, c, e1, h1, h2, _⟩ := h
  exact ⟨A, c, e1, h1, h2⟩
theorem Wr_nil (d : Kd α) (e : Nat) (W : World) (base : Nat) : Wr d e W base (.slice none 0 0) [] :=
  ⟨none, 0, rfl, ⟨rfl, by simp, fun h => absurd h (by simp)⟩, Nat.le_refl _, fun h => absurd h (by simp)⟩
theorem Wr.lower {base' : Nat} (h : Wr d e W base v xs) (hb : base' ≤ base) : Wr d e W base' v xs := by
  obtain ⟨A, c, e1, h1, h2, h3⟩ := h
  exact ⟨A, c, e1, h1, h2, fun h => by obtain ⟨g, off, cells, e2, h4, h5⟩ := h3 h; exact ⟨g, off, cells, e2, Nat.le_trans hb h4, h5⟩⟩
theorem Wr.below (h : Wr d e W base v xs) (hb : Below W.heap.size W W1) : Wr d e W1 base v xs := by
  obtain ⟨A, c, e1, h1, h2, h3⟩ := h
  exact ⟨A, c, e1, Kd.C_below h1 hb, h2, fun h => by
    obtain ⟨g, off, cells, e2, h4, h5⟩ := h3 h
    exact ⟨g, off, cells, e2, h4, (hb.block g (Array.getElem?_eq_some_iff.1 h5).1).trans h5⟩⟩
theorem Wr.of_R {ok : Nat → Prop} (h : Kd.R d e W base ok v xs) : Wr d e W base v xs := by
  obtain ⟨A, c, rfl⟩ := Kd.R_slice h
  obtain ⟨_, h1, h2⟩ := Kd.R_reads' h
  refine ⟨A, c, rfl, h2, h1, fun hp => ?_⟩
  obtain ⟨g, cap, e1, h3, h4, cells, h5⟩ := Kd.R_form h hp
  injection e1 with e2
  exact ⟨g, 0, cells, e2, h3, h5⟩
end
/-- a line that is read -/
def RdL (W : World) (v : Value) (x : Ln) : Prop := ∃ v1 v3, v = .agg #[.int .i64 x.q, v1, .int .i64 x.k, v3] ∧ Rd (Kd.int .i64) W v1 x.ls ∧ Rd k71 W v3 x.cs
/-- a line that is read, its rows in memory from base on -/
def WrL (W : World) (base : Nat) (v : Value) (x : Ln) : Prop := ∃ v1 v3, v = .agg #[.int .i64 x.q, v1, .int .i64 x.k, v3] ∧ Wr (Kd.int .i64) 3 W base v1 x.ls ∧ Wr k71 71 W base v3 x.cs
theorem WrL.rd {W : World} {base : Nat} {v : Value} {x : Ln} (h : WrL W base v x) : RdL W v x := by
  obtain ⟨v1, v3, e, h1, h3⟩ := h
  exact ⟨v1, v3, e, h1.rd, h3.rd⟩
theorem RdL.below {W W1 : World} {v : Value} {x : Ln} (h : RdL W v x) (hb : Below W.heap.size W W1) : RdL W1 v x := by
  obtain ⟨v1, v3, e, h1, h3⟩ := h
  exact ⟨v1, v3, e, h1.below hb, h3.below hb⟩
theorem WrL.below {W W1 : World} {base : Nat} {v : Value} {x : Ln} (h : WrL W base v x) (hb : Below W.heap.size W W1) : WrL W1 base v x := by
  obtain ⟨v1, v3, e, h1, h3⟩ := h
  exact ⟨v1, v3, e, h1.below hb, h3.below hb⟩
theorem WrL.lower {W : World} {base base' : Nat} {v : Value} {x : Ln} (h : WrL W base v x) (hb : base' ≤ base) : WrL W base' v x := by
  obtain ⟨v1, v3, e, h1, h3⟩ := h
  exact ⟨v1, v3, e, h1.lower hb, h3.lower hb⟩
def zeroLn : Ln := ⟨0, [], 0, []⟩
theorem WrL_zero (W : World) (base : Nat) : WrL W base (.agg #[.int .i64 0, .slice none 0 0, .int .i64 0, .slice none 0 0]) zeroLn := ⟨_, _, rfl, Wr_nil _ _ _ _, Wr_nil _ _ _ _⟩
/-- how long a line may be here -/
def Sz (x : Ln) : Prop := x.ls.length ≤ 100000 ∧ x.cs.length ≤ 100000 ∧ ∀ c ∈ x.cs, c.f2.size ≤ 1000000
def kindBad_ (k : Int) : Bool := k != 0 && k != 1
/-- may a line be -/
def mayL (x : Ln) : Bool := decide (0 ≤ x.q ∧ x.q ≤ 6 ∧ x.ls.length ≤ 6 ∧ 0 ≤ x.k ∧ x.k ≤ 3 ∧ (x.ls.length = 0 ∨ x.k = 0)) && (!(x.ls.any kindBad_) && !(x.cs.any bad_))
theorem Sz.may {x : Ln} (h : Sz x) : cells_May.f x.cs = some (!(x.cs.any bad_)) := by
  unfold cells_May.f
  rw [if_pos (List.all_eq_true.2 fun c hc => decide_eq_true (by have := h.2.2 c hc; omega))]
theorem Gl_.alloc {w : World} (h : Gl_ w) (o : Obj) : Gl_ (w.alloc o) := h.below (below_alloc (Below.refl _ _) o)
theorem Gl_.drewN {w : World} (h : Gl_ w) (n : Nat) : Gl_ (w.drewN n) := h.below (pw_below_drewN (Below.refl _ _) n)
theorem R_put_ {α : Type} {d : Kd α} {e : Nat} {W : World} {base : Nat} {v : Value} {xs : List α} {g t : Nat} {cells : Array Value} (h : Kd.R d e W base (fun _ => True) v xs) (hb : W.heap[g]? = some (.cells cells t (0, 0))) (ht : ∀ q, q ∈ e :: d.E → q ≠ t) (i : Nat) (u : Value) :
    Kd.R d e (W.setCell ⟨g, i, none⟩ u) base (fun _ => True) v xs := Kd.R_mono (Kd.R_far (p := ⟨g, i, none⟩) (Kd.R_types h hb ht) (fun _ hk => hk.2) u) (fun _ _ => trivial)
theorem blk_off_ {W : World} {k g i : Nat} {u : Value} {o : Obj} (h : W.heap[k]? = some o) (hne : k ≠ g) : (W.setCell ⟨g, i, none⟩ u).heap[k]? = some o := (Below.heap_setCell W ⟨g, i, none⟩ u k hne).trans h
/-- a line's four cells, written -/
def put4_ (W : World) (g : Nat) (a b c d : Value) : World := (((W.setCell ⟨g, 0, none⟩ a).setCell ⟨g, 1, none⟩ b).setCell ⟨g, 2, none⟩ c).setCell ⟨g, 3, none⟩ d
section
variable {W : World} {g : Nat} {a b c d z0 z1 z2 z3 : Value} {t : Nat}
theorem put4_blk (h : W.heap[g]? = some (.cells #[z0, z1, z2, z3] t (0, 0))) : (put4_ W g a b c d).heap[g]? = some (.cells #[a, b, c, d] t (0, 0)) :=
  blk_put (blk_put (blk_put (blk_put h 0 a rfl) 1 b rfl) 2 c rfl) 3 d rfl
theorem put4_off {k : Nat} {o : Obj} (h : W.heap[k]? = some o) (hne : k ≠ g) : (put4_ W g a b c d).heap[k]? = some o := blk_off_ (blk_off_ (blk_off_ (blk_off_ h hne) hne) hne) hne
theorem put4_R {α : Type} {kd : Kd α} {e base : Nat} {v : Value} {xs : List α} (h : Kd.R kd e W base (fun _ => True) v xs) (hb : W.heap[g]? = some (.cells #[z0, z1, z2, z3] t (0, 0))) (ht : ∀ q, q ∈ e :: kd.E → q ≠ t) : Kd.R kd e (put4_ W g a b c d) base (fun _ => True) v xs :=
  R_put_ (R_put_ (R_put_ (R_put_ h hb ht 0 a) (blk_put hb 0 a rfl) ht 1 b) (blk_put (blk_put hb 0 a rfl) 1 b rfl) ht 2 c) (blk_put (blk_put (blk_put hb 0 a rfl) 1 b rfl) 2 c rfl) ht 3 d
theorem put4_below {w : World} (h : Below w.heap.size w W) (hg : w.heap.size ≤ g) : Below w.heap.size w (put4_ W g a b c d) := below_set (below_set (below_set (below_set h hg) hg) hg) hg
end
theorem two_boxes_ (w : World) (O1 O2 : Obj) : ((w.alloc O1).alloc O2).heap[w.heap.size]? = some O1 ∧ ((w.alloc O1).alloc O2).heap[w.heap.size + 1]? = some O2 ∧ Below w.heap.size w ((w.alloc O1).alloc O2) := by
  refine ⟨blk_alloc (heap_alloc_new w O1) O2, ?_, below_alloc (below_alloc (Below.refl _ _) O1) O2⟩
  have h := heap_alloc_new (w.alloc O1) O2
  rwa [World.size_alloc] at h
end Go.Proofs.YtgdpknmffohhaaaDoor.Pl

namespace Go.Proofs.YtgdpknmffohhaaaDoor.Pl
open Go.RowKit Go.Proofs.YtgdpknmffohhaaaDoorW.PrintWords Go.Proofs.YtgdpknmffohhaaaDoorW.PrintLast Go.Proofs.YtgdpknmffohhaaaDoorW.PrintMore
attribute [local go_sem] max2_int min2_int max_two min_two max_three min_three max_four min_four   -- for this text's walks alone
set_option linter.unusedVariables false
set_option linter.unusedSimpArgs false

theorem eqA71 (d : Nat) (w : World) (x0 y0 : Int) (x1 y1 : Int) (x2 y2 : ByteArray) :
    (Op.equalIn (d + 2) 71 (.agg #[.int .i32 x0, .int .i64 x1, .string x2]) (.agg #[.int .i32 y0, .int .i64 y1, .string y2])).run Tryd.prog w = .ok (x0 == y0 && (x1 == y1 && (x2.toList == y2.toList))) w := by
  refine eqA_of Tryd.underlying71 (by kernel_rfl) ?_
  refine eqf_cons (by rfl) (by go_simp; rfl) (by go_simp; rfl) (by go_simp) ?_
  refine eqf_cons (by rfl) (by go_simp; rfl) (by go_simp; rfl) (by go_simp) ?_
  exact eqf_last (by rfl) (by go_simp; rfl) (by go_simp; rfl) (by go_simp)
end Go.Proofs.YtgdpknmffohhaaaDoor.Pl

namespace Go.Proofs.YtgdpknmffohhaaaDoor.Pl
open Go.RowKit Go.Proofs.YtgdpknmffohhaaaDoorW.PrintWords Go.Proofs.YtgdpknmffohhaaaDoorW.PrintLast Go.Proofs.YtgdpknmffohhaaaDoorW.PrintMore
attribute [local go_sem] max2_int min2_int max_two min_two max_three min_three max_four min_four   -- for this text's walks alone
set_option linter.unusedVariables false
set_option linter.unusedSimpArgs false

attribute [local go_sem high] eqA71
/-! ### slices_Equal_Cell: function 112 -/
end Go.Proofs.YtgdpknmffohhaaaDoor.Pl

namespace Go.Proofs.YtgdpknmffohhaaaDoor.Pl
open Go.RowKit Go.Proofs.YtgdpknmffohhaaaDoorW.PrintWords Go.Proofs.YtgdpknmffohhaaaDoorW.PrintLast Go.Proofs.YtgdpknmffohhaaaDoorW.PrintMore
attribute [local go_sem] max2_int min2_int max_two min_two max_three min_three max_four min_four   -- for this text's walks alone
set_option linter.unusedVariables false
set_option linter.unusedSimpArgs false

/-! ### cells_Same: function 65 -/
end Go.Proofs.YtgdpknmffohhaaaDoor.Pl

namespace Go.Proofs.YtgdpknmffohhaaaDoor.Pl
open Go.RowKit Go.Proofs.YtgdpknmffohhaaaDoorW.PrintWords Go.Proofs.YtgdpknmffohhaaaDoorW.PrintLast Go.Proofs.YtgdpknmffohhaaaDoorW.PrintMore
attribute [local go_sem] max2_int min2_int max_two min_two max_three min_three max_four min_four   -- for this text's walks alone
set_option linter.unusedVariables false
set_option linter.unusedSimpArgs false

/-! ### slices_Equal_int: function 76 -/
end Go.Proofs.YtgdpknmffohhaaaDoor.Pl

namespace Go.Proofs.YtgdpknmffohhaaaDoor.Pl
open Go.RowKit Go.Proofs.YtgdpknmffohhaaaDoorW.PrintWords Go.Proofs.YtgdpknmffohhaaaDoorW.PrintLast Go.Proofs.YtgdpknmffohhaaaDoorW.PrintMore
attribute [local go_sem] max2_int min2_int max_two min_two max_three min_three max_four min_four   -- for this text's walks alone
set_option linter.unusedVariables false
set_option linter.unusedSimpArgs false

/-! ### lines_Same: function 19 -/
end Go.Proofs.YtgdpknmffohhaaaDoor.Pl
