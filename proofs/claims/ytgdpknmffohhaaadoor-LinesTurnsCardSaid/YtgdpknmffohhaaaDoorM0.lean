/- Printed texts, and given ones, of the seat's functions, in one file. -/
import Derived.Test.YtgdpknmffohhaaaDoorProg
import Derived.Below
import Derived.Deep.Draws
import Derived.Deep.AppendLies
import Derived.Maps.AppendAt
import Derived.OwnWalk
import Derived.Laws.BytesArg
import Derived.Laws.MakeOwn
import Derived.Laws.OwnMore
import Derived.Deep.OwnRows
import Derived.Tactics
import Derived.Lib.ConvBytes
import Derived.Laws.Slices
import Derived.WalkKit
import Derived.KernelRfl
import Derived.RowKit3
import Derived.Deep.LoopGhost
import Derived.Deep.QuietTactic
import Derived.BigQuiet
import Derived.WideLaws
import Derived.Deep.DeepCutAuto
import Derived.Deep.CutBlock
import Derived.Deep.RegionHeld3
import Derived.Laws.Rows
import Derived.Lib.AppendStr
import Derived.ArgAppend
import Derived.Laws.IdiomCopy
import Derived.OrdersHeld
import Derived.Laws.BitsLemmas
import Derived.RowKit
import Derived.BigRegion
import Derived.Deep.RegionWith
import Derived.Laws.Cover4
import Derived.Laws.IdiomStrings
import Derived.Laws.RangeAny
import Derived.Lib.MapLaws
import Derived.Lib.OthersKept
import Derived.Lib.SliceRun
import Derived.LoopIn
import Derived.LoopN
import Derived.LoopNIn
import Derived.LoopTactic
import Derived.Maps.OwnIn
import Derived.OwnWalkIn
import Derived.RangeFuncBound
import Derived.RangeFuncBox
import Derived.RangeFuncCalls
import Derived.RangeFuncLeaves
import Derived.RangeFuncNested
import Derived.Shelf.Abstract
import Derived.Shelf.Strings.Cut
import Derived.Shelf.Strings.MapGrows
import Derived.Shelf.Unicode.ValidAny
import Derived.TacticsInMore
import Derived.Test.YtgdpknmffohhaaaDoorShelf
import Derived.WalkSpells
import Derived.Test.YtgdpknmffohhaaaDoorWWords
import Derived.Test.YtgdpknmffohhaaaDoorWLast
import Derived.Test.YtgdpknmffohhaaaDoorWTab
import Derived.Test.YtgdpknmffohhaaaDoorWFour
import Derived.Test.YtgdpknmffohhaaaDoorWQPut
import Derived.Test.YtgdpknmffohhaaaDoorWApart
import Derived.Test.YtgdpknmffohhaaaDoorWArr
import Derived.Test.YtgdpknmffohhaaaDoorWZeros
import Derived.Test.YtgdpknmffohhaaaDoorWFoot
import Derived.Test.YtgdpknmffohhaaaDoorWKept
import Derived.Test.YtgdpknmffohhaaaDoorWShare
import Derived.Test.YtgdpknmffohhaaaDoorWN
import Derived.Test.YtgdpknmffohhaaaDoorWFootNe
import Derived.Test.YtgdpknmffohhaaaDoorWAt
import Derived.Test.YtgdpknmffohhaaaDoorWEqStruct
import Derived.Test.YtgdpknmffohhaaaDoorWRepsOne
import Derived.Test.YtgdpknmffohhaaaDoorWInv
import Derived.Test.YtgdpknmffohhaaaDoorWInvWords
import Derived.Test.YtgdpknmffohhaaaDoorWGuard
import Derived.Test.YtgdpknmffohhaaaDoorWNEv
import Derived.Test.YtgdpknmffohhaaaDoorWMore
namespace Go.Proofs.YtgdpknmffohhaaaDoor.Pl
open Go.RowKit Go.Proofs.YtgdpknmffohhaaaDoorW.PrintWords Go.Proofs.YtgdpknmffohhaaaDoorW.PrintLast Go.Proofs.YtgdpknmffohhaaaDoorW.PrintMore
attribute [local go_sem] max2_int min2_int max_two min_two max_three min_three max_four min_four   -- for this text's walks alone
set_option linter.unusedVariables false
set_option linter.unusedSimpArgs false



def errW : Option Int → Value
  | none => .nilIface
  | some c => .iface 0 (.int .i64 c)
theorem errW_none : errW none = .nilIface := rfl
theorem errW_some (c : Int) : errW (some c) = .iface 0 (.int .i64 c) := rfl

theorem info3 : (Tryd.prog.info? 3).map (fun i => (i.zero, i.size, i.bytes)) = some (some (.int .i64 0), 1, 8) := by kernel_rfl
theorem info71 : (Tryd.prog.info? 71).map (fun i => (i.zero, i.size, i.bytes)) = some (some (.agg #[(.int .i32 0), (.int .i64 0), (.string ⟨#[]⟩)]), 3, 32) := by kernel_rfl
-- the values' own types
/-! #### struct type 71 -/
structure S71 where
  f0 : Int
  f1 : Int
  f2 : ByteArray
def z71 : S71 := ⟨(0 : Int), (0 : Int), (⟨#[]⟩ : ByteArray)⟩
def k71 : Kd S71 := Kd.iso (Kd.pair (Kd.int .i32) (Kd.pair (Kd.int .i64) Kd.string)) (fun x : S71 => (x.f0, x.f1, x.f2))
theorem k71_open {w : World} {x : S71} {cs : List Value} (h : k71.K w x cs) : cs = [.int .i32 x.f0, .int .i64 x.f1, .string x.f2] := by
  obtain ⟨_, _, rfl, rfl, ⟨_, _, rfl, rfl, rfl⟩⟩ := h
  exact rfl
theorem k71_mk (w : World) (x : S71)  : k71.K w x [.int .i32 x.f0, .int .i64 x.f1, .string x.f2] := ⟨[.int .i32 x.f0], [.int .i64 x.f1, .string x.f2], rfl, rfl, ⟨[.int .i64 x.f1], [.string x.f2], rfl, rfl, rfl⟩⟩
def rd_T71 (xs : List S71) (i : Int) : S71 := xs.getD i.toNat z71
theorem at_T71 {w : World} {A : Option Addr} {n : Nat} {xs : List S71} (h : Kd.C k71 w A n xs) (i : Int) (h0 : 0 ≤ i) (h1 : i < n) : ∃ ad , A = some ad ∧ w.cell? (ad.add (i.toNat * 3)) = some (.int .i32 (rd_T71 xs i).f0) ∧ w.cell? ⟨(ad.add (i.toNat * 3)).block, (ad.add (i.toNat * 3)).off + 1, none⟩ = some (.int .i64 (rd_T71 xs i).f1) ∧ w.cell? ⟨(ad.add (i.toNat * 3)).block, (ad.add (i.toNat * 3)).off + 2, none⟩ = some (.string (rd_T71 xs i).f2) := by
  obtain ⟨ad, c, e, _, hK, hc0⟩ := Kd.C_get h z71 i h0 h1
  have hc : ∀ j u, c[j]? = some u → w.cell? (ad.add (i.toNat * 3 + j)) = some u := hc0
  obtain rfl := k71_open hK
  exact ⟨ad, e, hc 0 _ rfl, by rw [← add_field _ _ 1 (by omega)]; exact hc 1 _ rfl, by rw [← add_field _ _ 2 (by omega)]; exact hc 2 _ rfl⟩

/-! #### struct type 103 -/
end Go.Proofs.YtgdpknmffohhaaaDoor.Pl

namespace Go.Proofs.YtgdpknmffohhaaaDoor.Pl
open Go.RowKit Go.Proofs.YtgdpknmffohhaaaDoorW.PrintWords Go.Proofs.YtgdpknmffohhaaaDoorW.PrintLast Go.Proofs.YtgdpknmffohhaaaDoorW.PrintMore
attribute [local go_sem] max2_int min2_int max_two min_two max_three min_three max_four min_four   -- for this text's walks alone
set_option linter.unusedVariables false
set_option linter.unusedSimpArgs false

/-! ### lib_cellset -/
def spanned_ {α : Type} (l : List α) (a b : Int) : Prop := 0 ≤ a ∧ a ≤ b ∧ b ≤ (l.length : Int)
instance {α : Type} (l : List α) (a b : Int) : Decidable (spanned_ l a b) := by unfold spanned_; infer_instance
theorem rd_at_ {xs : List S71} {k : Nat} (hk : k < xs.length) : xs[k]? = some (rd_T71 xs (k : Int)) := by
  unfold rd_T71
  rw [Int.toNat_natCast, List.getD_eq_getElem?_getD, List.getElem?_eq_getElem hk]
  rfl

end Go.Proofs.YtgdpknmffohhaaaDoor.Pl

namespace Go.Proofs.YtgdpknmffohhaaaDoor.Pl
open Go.RowKit Go.Proofs.YtgdpknmffohhaaaDoorW.PrintWords Go.Proofs.YtgdpknmffohhaaaDoorW.PrintLast Go.Proofs.YtgdpknmffohhaaaDoorW.PrintMore
attribute [local go_sem] max2_int min2_int max_two min_two max_three min_three max_four min_four   -- for this text's walks alone
set_option linter.unusedVariables false
set_option linter.unusedSimpArgs false

/-! ### lib_rows -/
theorem infoC_ : ∃ i, Tryd.prog.info? 71 = some i ∧ i.size = 3 := by
  obtain ⟨i, hi, h⟩ := Option.map_eq_some_iff.1 info71
  simp only [Prod.mk.injEq] at h
  exact ⟨i, hi, h.2.1⟩
theorem dropC_ (A : Option Addr) (l : List S71) (c p : Nat) (hp : p ≤ l.length) (hc : l.length ≤ c) : ∃ (A1 : Option Addr) (c1 : Nat), (∀ W : World, (Instr.slice 36 (.slice A l.length c) (some (.int .i64 (p : Int))) none none).run Tryd.prog W = .ok (.slice A1 (l.length - p) c1) W) ∧ (l.drop p).length ≤ c1 ∧ ∀ w : World, Kd.C k71 w A l.length l → Kd.C k71 w A1 (l.drop p).length (l.drop p) := by
  obtain ⟨i, hi, hsz⟩ := infoC_
  refine ⟨if c = p then A else A.map (·.add (p * 3)), c - p, fun W => ?_, by rw [List.length_drop]; omega, fun w h => ?_⟩
  · have h := cut_from (P := Tryd.prog) 36 71 .i64 Tryd.underlying36 hi 3 hsz A l.length c (p : Int) (by omega) (by omega) W
    rwa [Int.toNat_natCast] at h
  · exact Kd.C_drop h hp hc
end Go.Proofs.YtgdpknmffohhaaaDoor.Pl

namespace Go.Proofs.YtgdpknmffohhaaaDoor.Pl
open Go.RowKit Go.Proofs.YtgdpknmffohhaaaDoorW.PrintWords Go.Proofs.YtgdpknmffohhaaaDoorW.PrintLast Go.Proofs.YtgdpknmffohhaaaDoorW.PrintMore
attribute [local go_sem] max2_int min2_int max_two min_two max_three min_three max_four min_four   -- for this text's walks alone
set_option linter.unusedVariables false
set_option linter.unusedSimpArgs false

/-! ### lib_index -/
/-- what a predicate handed to the library comes to at these elements, whatever was made behind w -/
def Tells_ {α : Type} (arg : α → Value) (w : World) (g : Nat) (lb : Array Value) (p : α → Bool) (l : List α) : Prop :=
  ∀ x ∈ l, ∀ W, Below w.heap.size w W → Calls Tryd.prog g (#[arg x] ++ lb) W fun e W' => e = .returned (.bool (p x)) ∧ Below W.heap.size W W'
def argC_ (x : S71) : Value := .agg #[.int .i32 x.f0, .int .i64 x.f1, .string x.f2]
set_option maxHeartbeats 4000000 in
theorem indexC_ (A0 : Option Addr) (c0 : Nat) (l0 : List S71) (g : Nat) (lb : Array Value) (p : S71 → Bool) (w : World) (hr0 : Kd.C k71 w A0 l0.length l0) (hc0 : l0.length ≤ c0) (eg : ∀ args w, (callFunc g args).run Tryd.prog w = .ok (.enter g args) w)
    (hf : Tells_ argC_ w g lb p l0) : Calls Tryd.prog 132 #[.slice A0 l0.length c0, .func (.func g) #[] lb] w fun e w' => (∃ i : Int, e = .returned (.int .i64 i) ∧ decide (0 ≤ i) = l0.any p) ∧ Below w.heap.size w w' := by
  have HR0 := Aside0.mk hr0
  have HF := Aside0.mk hf
  have HB := Aside0.mk (Below.refl w.heap.size w)
  have hlen : l0.length ≤ 9223372036854775807 := hr0.2.1
  have hu30 := Tryd.underlying71
  clear hr0 hf
  go_enter Tryd.func132, Tryd.ntmps132
  go_wp2
  go_loopw [8] (fun v wr => ∃ k : Nat, v = .int .i64 (k : Int) ∧ k ≤ l0.length ∧ Aside0 (∀ j, j < k → p (rd_T71 l0 (j : Int)) = false) ∧ Aside0 (Below w.heap.size w wr)) (fun v _ => l0.length - (intOf v).toNat)
  case atStart => exact ⟨0, rfl, Nat.zero_le _, ⟨fun j hj => absurd hj (Nat.not_lt_zero _)⟩, HB⟩
  case round =>
    clear HB
    obtain ⟨k, rfl, hk, HN, HB⟩ := hrel
    by_cases hlt : k < l0.length
    · obtain ⟨ad, e, h0, h1, h2⟩ := at_T71 HR0.out (k : Int) (by omega) (by omega)
      cases e
      replace h0 := (HB.out.cell (World.block_lt_of_cell? w _ h0)).trans h0
      replace h1 := (HB.out.cell (World.block_lt_of_cell? w _ h1)).trans h1
      replace h2 := (HB.out.cell (World.block_lt_of_cell? w _ h2)).trans h2
      rw [Int.toNat_natCast] at h0 h1 h2
      have hm : rd_T71 l0 (k : Int) ∈ l0 := List.mem_of_getElem? (rd_at_ hlt)
      generalize hx : rd_T71 l0 (k : Int) = x at h0 h1 h2 hm
      have HF1 := Aside0.mk (HF.out x hm)
      clear hm
      cases hp : p x with
      | true =>
        have HY := Aside0.mk (show l0.any p = true from List.any_eq_true.2 ⟨x, by rw [← hx]; exact List.mem_of_getElem? (rd_at_ hlt), hp⟩)
        go_wp2_with (go_at_fn g; refine (HF1.out _ HB.out).mono ?_; rw [hp]; rintro e w' ⟨rfl, hb⟩; have HB' := Aside0.mk hb; clear hb)
        go_ret
        exact ⟨⟨(k : Int), rfl, by rw [HY.out, decide_eq_true (by omega)]⟩, HB.out.trans (HB'.out.mono HB.out.size)⟩
      | false =>
        go_wp2_with (go_at_fn g; refine (HF1.out _ HB.out).mono ?_; rw [hp]; rintro e w' ⟨rfl, hb⟩; have HB' := Aside0.mk hb; clear hb)
        go_roundw
        case rel => exact ⟨k + 1, by go_num, by omega, ⟨fun j hj => by
          by_cases h : j = k
          · rw [h, hx]; exact hp
          · exact HN.out j (by omega)⟩, ⟨HB.out.trans (HB'.out.mono HB.out.size)⟩⟩
        case measure => simp [intOf]; omega
    · have HY := Aside0.mk (show l0.any p = false by
        rw [List.any_eq_false]
        intro y hy
        obtain ⟨j, hj, rfl⟩ := List.getElem_of_mem hy
        have := HN.out j (by omega)
        have e2 := rd_at_ (xs := l0) hj
        rw [List.getElem?_eq_getElem hj] at e2
        have e3 := Option.some.inj e2
        rw [← e3] at this
        simpa using this)
      go_wp2
      go_ret
      exact ⟨⟨-1, rfl, by rw [HY.out]; rfl⟩, HB.out⟩
set_option maxHeartbeats 4000000 in
theorem containsC_ (A0 : Option Addr) (c0 : Nat) (l0 : List S71) (g : Nat) (lb : Array Value) (p : S71 → Bool) (w : World) (hr0 : Kd.C k71 w A0 l0.length l0) (hc0 : l0.length ≤ c0) (eg : ∀ args w, (callFunc g args).run Tryd.prog w = .ok (.enter g args) w)
    (hf : Tells_ argC_ w g lb p l0) : Calls Tryd.prog 109 #[.slice A0 l0.length c0, .func (.func g) #[] lb] w fun e w' => e = .returned (.bool (l0.any p)) ∧ Below w.heap.size w w' := by
  have HI := Aside0.mk (indexC_ A0 c0 l0 g lb p w hr0 hc0 eg hf)
  clear hr0 hf
  go_enter Tryd.func109, Tryd.ntmps109
  go_wp2_with (go_at_call 132; refine HI.out.mono ?_; rintro e w' ⟨⟨i, rfl, hi⟩, hb⟩; have HB := Aside0.mk hb; have HD := Aside0.mk hi; clear hb hi)
  go_ret
  exact ⟨by rw [HD.out]; rfl, HB.out⟩
end Go.Proofs.YtgdpknmffohhaaaDoor.Pl

namespace Go.Proofs.YtgdpknmffohhaaaDoor.Pl
open Go.RowKit Go.Proofs.YtgdpknmffohhaaaDoorW.PrintWords Go.Proofs.YtgdpknmffohhaaaDoorW.PrintLast Go.Proofs.YtgdpknmffohhaaaDoorW.PrintMore
attribute [local go_sem] max2_int min2_int max_two min_two max_three min_three max_four min_four   -- for this text's walks alone
set_option linter.unusedVariables false
set_option linter.unusedSimpArgs false

/-! ### utf8_ValidRune: function 146 -/
def utf8_ValidRune.j0 : Nat → Int → Bool → Option (Bool)
  | 0, _, _ => none
  | k + 1, x0, x3 => if x3 = true then (some true) else (if 57343 < x0 then (if x0 ≤ 1114111 then (some true) else (some false)) else (some false))
def utf8_ValidRune.f (k : Nat) (a0 : Int) : Option (Bool) := if 0 ≤ a0 then (utf8_ValidRune.j0 k a0 (decide (a0 < 55296))) else (utf8_ValidRune.j0 k a0 false)
set_option maxHeartbeats 8000000 in
set_option maxRecDepth 100000 in
theorem utf8_ValidRune.calls (k : Nat) (a0 : Int) (r : Bool) (w : World) (h : utf8_ValidRune.f k a0 = some r) :
    Calls Tryd.prog 146 #[.int .i32 a0] w fun e w' => e = .returned (.bool r) ∧ Drawn0 w w' := by
  have H : (if 0 ≤ a0 then (utf8_ValidRune.j0 k a0 (decide (a0 < 55296))) else (utf8_ValidRune.j0 k a0 false)) = some r := h
  clear h
  have HC2 := Aside0.mk H
  clear H
  go_enter Tryd.func146, Tryd.ntmps146
  go_upto_region 1 with (fail)
  go_cut [3] (fun v3 wc => ∃ (kq : Nat) (x3_1 : Bool), v3 = .bool x3_1 ∧ Aside0 (utf8_ValidRune.j0 kq a0 x3_1 = some r) ∧ Aside0 (kq ≤ k) ∧ Drawn0 w wc)
  case first =>
    have H := HC2.out
    clear HC2
    by_cases c3 : 0 ≤ a0
    · rw [if_pos c3] at H
      have c3b0 : decide (0 ≤ a0) = true := decide_eq_true c3
      clear c3
      (first | rw [c3b0] | (simp only [i64_w, i32_w]; rw [c3b0]) | skip)
      have H' := Aside0.mk H
      clear H
      go_wp2
      go_meet
      case rel => exact ⟨_, (decide (a0 < 55296)), (by first | rfl | (simp; done) | (simp [*]; done)), H', ⟨by first | omega | exact Nat.le_refl _⟩, by repeat (first | exact Drawn0.refl _ | apply Drawn0.step)⟩
    · rw [if_neg c3] at H
      have c3b0 : decide (0 ≤ a0) = false := decide_eq_false c3
      clear c3
      (first | rw [c3b0] | (simp only [i64_w, i32_w]; rw [c3b0]) | skip)
      have H' := Aside0.mk H
      clear H
      go_wp2
      go_meet
      case rel => exact ⟨_, (false), (by first | rfl | (simp; done) | (simp [*]; done)), H', ⟨by first | omega | exact Nat.le_refl _⟩, by repeat (first | exact Drawn0.refl _ | apply Drawn0.step)⟩
  case rest =>
    clear HC2
    try clear c1
    try clear p2
    try clear c3
    try clear c3b0
    obtain ⟨kq, x3_1, rfl, HA, HJ1, ⟨mc1, rfl⟩⟩ := hcut
    cases kq with
    | zero => exact absurd HA.out (by simp [utf8_ValidRune.j0])
    | succ kj1 =>
      have H := HA.out
      clear HA
      simp only [utf8_ValidRune.j0] at H
      by_cases c4 : x3_1 = true
      · subst c4
        have H1 : (some true) = some r := by rw [if_pos rfl] at H; exact H
        clear H
        have H := H1
        clear H1
        obtain rfl := Option.some.inj H
        go_wp2
        go_ret
        exact ⟨by first | rfl | (simp; done) | (simp [*]; done), by repeat (first | exact Drawn0.refl _ | apply Drawn0.step)⟩
      · replace c4 := Bool.eq_false_iff.mpr c4
        subst c4
        have H1 : (if 57343 < a0 then (if a0 ≤ 1114111 then (some true) else (some false)) else (some false)) = some r := by rw [if_neg (show ¬ (false = true) by decide)] at H; exact H
        clear H
        have H := H1
        clear H1
        by_cases c5 : 57343 < a0
        · rw [if_pos c5] at H
          have c5b0 : decide (57343 < a0) = true := decide_eq_true c5
          clear c5
          by_cases c6 : a0 ≤ 1114111
          · rw [if_pos c6] at H
            have c6b0 : decide (a0 ≤ 1114111) = true := decide_eq_true c6
            clear c6
            obtain rfl := Option.some.inj H
            go_wp2
            go_ret
            exact ⟨by first | rfl | (simp; done) | (simp [*]; done), by repeat (first | exact Drawn0.refl _ | apply Drawn0.step)⟩
          · rw [if_neg c6] at H
            have c6b0 : decide (a0 ≤ 1114111) = false := decide_eq_false c6
            clear c6
            obtain rfl := Option.some.inj H
            go_wp2
            go_ret
            exact ⟨by first | rfl | (simp; done) | (simp [*]; done), by repeat (first | exact Drawn0.refl _ | apply Drawn0.step)⟩
        · rw [if_neg c5] at H
          have c5b0 : decide (57343 < a0) = false := decide_eq_false c5
          clear c5
          obtain rfl := Option.some.inj H
          go_wp2
          go_ret
          exact ⟨by first | rfl | (simp; done) | (simp [*]; done), by repeat (first | exact Drawn0.refl _ | apply Drawn0.step)⟩

end Go.Proofs.YtgdpknmffohhaaaDoor.Pl

namespace Go.Proofs.YtgdpknmffohhaaaDoor.Pl
open Go.RowKit Go.Proofs.YtgdpknmffohhaaaDoorW.PrintWords Go.Proofs.YtgdpknmffohhaaaDoorW.PrintLast Go.Proofs.YtgdpknmffohhaaaDoorW.PrintMore
attribute [local go_sem] max2_int min2_int max_two min_two max_three min_three max_four min_four   -- for this text's walks alone
set_option linter.unusedVariables false
set_option linter.unusedSimpArgs false

/-! ### chars_Class: function 133 -/
mutual
def chars_Class.j0 : Nat → Int → Bool → Option (Int)
  | 0, _, _ => none
  | k + 1, x0, x13 => if x13 = true then (some 2) else (if x0 = 65533 then (some 5) else (if x0 ≥ 97 then (chars_Class.j1 k x0 (decide (x0 ≤ 122))) else (chars_Class.j1 k x0 false)))
def chars_Class.j1 : Nat → Int → Bool → Option (Int)
  | 0, _, _ => none
  | k + 1, x0, x21 => if x21 = true then (some 3) else (if x0 ≥ 65 then (chars_Class.j2 k x0 (decide (x0 ≤ 90))) else (chars_Class.j2 k x0 false))
def chars_Class.j2 : Nat → Int → Bool → Option (Int)
  | 0, _, _ => none
  | k + 1, x0, x28 => if x28 = true then (some 3) else (if x0 ≥ 128 then (some 3) else (if x0 ≥ 48 then (if x0 ≤ 57 then (some 4) else (some 5)) else (some 5)))
end
def chars_Class.f (k : Nat) (a0 : Int) : Option (Int) := (utf8_ValidRune.f k a0).bind fun t102 => (if t102 = true then (if a0 < 32 then (some 1) else (if a0 = 127 then (some 1) else (if a0 = 32 then (chars_Class.j0 k a0 (a0 == 32)) else (chars_Class.j0 k a0 (a0 == 160))))) else (some 0))
set_option maxHeartbeats 8000000 in
set_option maxRecDepth 100000 in
theorem chars_Class.calls (k : Nat) (a0 : Int) (r : Int) (w : World) (h : chars_Class.f k a0 = some r) :
    Calls Tryd.prog 133 #[.int .i32 a0] w fun e w' => e = .returned (.int .i64 r) ∧ Drawn0 w w' := by
  have H : ((utf8_ValidRune.f k a0).bind fun t102 => (if t102 = true then (if a0 < 32 then (some 1) else (if a0 = 127 then (some 1) else (if a0 = 32 then (chars_Class.j0 k a0 (a0 == 32)) else (chars_Class.j0 k a0 (a0 == 160))))) else (some 0))) = some r := h
  clear h
  replace H := Option.bind_eq_some_iff.mp H
  obtain ⟨t102, A20, H⟩ := H
  replace H : (if t102 = true then (if a0 < 32 then (some 1) else (if a0 = 127 then (some 1) else (if a0 = 32 then (chars_Class.j0 k a0 (a0 == 32)) else (chars_Class.j0 k a0 (a0 == 160))))) else (some 0)) = some r := H
  have A2 := Aside0.mk A20
  clear A20
  by_cases c3 : t102 = true
  · subst c3
    have H1 : (if a0 < 32 then (some 1) else (if a0 = 127 then (some 1) else (if a0 = 32 then (chars_Class.j0 k a0 (a0 == 32)) else (chars_Class.j0 k a0 (a0 == 160))))) = some r := by rw [if_pos rfl] at H; exact H
    clear H
    have H := H1
    clear H1
    by_cases c4 : a0 < 32
    · rw [if_pos c4] at H
      have c4b0 : decide (a0 < 32) = true := decide_eq_true c4
      clear c4
      obtain rfl := Option.some.inj H
      go_enter Tryd.func133, Tryd.ntmps133
      go_wp2_with (first | ((with_reducible refine gate_callee (f := 146) rfl ?_); refine goesL_ (some 5) rfl rfl Tryd.func146 (by kernel_rfl) rfl #[.int .i32 a0] rfl (by (try simp only [List.map_toArray, List.map_cons, List.map_nil]); first | done | rfl | (simp only [List.length_drop, List.length_take]; rfl)) ?_; (with_reducible refine (utf8_ValidRune.calls k a0 true _ A2.out).mono ?_); rintro e w' ⟨rfl, ⟨nd, rfl⟩⟩; refine ⟨_, rfl, ?_⟩))
      go_ret
      exact ⟨by first | rfl | (simp; done) | (simp [*]; done), by repeat (first | exact Drawn0.refl _ | apply Drawn0.step)⟩
    · rw [if_neg c4] at H
      have c4b0 : decide (a0 < 32) = false := decide_eq_false c4
      clear c4
      by_cases c5 : a0 = 127
      · rw [if_pos c5] at H
        have c5b0 : (a0 == 127) = true := beq_iff_eq.mpr c5
        have c5b1 : (a0 != 127) = false := bne_eq_false_iff_eq.mpr c5
        clear c5
        obtain rfl := Option.some.inj H
        go_enter Tryd.func133, Tryd.ntmps133
        go_wp2_with (first | ((with_reducible refine gate_callee (f := 146) rfl ?_); refine goesL_ (some 5) rfl rfl Tryd.func146 (by kernel_rfl) rfl #[.int .i32 a0] rfl (by (try simp only [List.map_toArray, List.map_cons, List.map_nil]); first | done | rfl | (simp only [List.length_drop, List.length_take]; rfl)) ?_; (with_reducible refine (utf8_ValidRune.calls k a0 true _ A2.out).mono ?_); rintro e w' ⟨rfl, ⟨nd, rfl⟩⟩; refine ⟨_, rfl, ?_⟩))
        go_ret
        exact ⟨by first | rfl | (simp; done) | (simp [*]; done), by repeat (first | exact Drawn0.refl _ | apply Drawn0.step)⟩
      · rw [if_neg c5] at H
        have c5b0 : (a0 == 127) = false := beq_eq_false_iff_ne.mpr c5
        have c5b1 : (a0 != 127) = true := bne_iff_ne.mpr c5
        have HC6 := Aside0.mk H
        clear H
        go_enter Tryd.func133, Tryd.ntmps133
        go_upto_if 13 with (first | ((with_reducible refine gate_callee (f := 146) rfl ?_); refine goesL_ (some 5) rfl rfl Tryd.func146 (by kernel_rfl) rfl #[.int .i32 a0] rfl (by (try simp only [List.map_toArray, List.map_cons, List.map_nil]); first | done | rfl | (simp only [List.length_drop, List.length_take]; rfl)) ?_; (with_reducible refine (utf8_ValidRune.calls k a0 true _ A2.out).mono ?_); rintro e w' ⟨rfl, ⟨nd, rfl⟩⟩; refine ⟨_, rfl, ?_⟩))
        (try simp only [Act.put, List.setIfInBounds_toArray, List.set_cons_zero, List.set_cons_succ])
        go_cut [13] (fun v13 wc => ∃ (kq : Nat) (x13_5 : Bool), v13 = .bool x13_5 ∧ Aside0 (chars_Class.j0 kq a0 x13_5 = some r) ∧ Aside0 (kq ≤ k) ∧ Drawn0 w wc)
        case first =>
          have H := HC6.out
          clear HC6
          by_cases c7 : a0 = 32
          · rw [if_pos c7] at H
            have c7b0 : (a0 == 32) = true := beq_iff_eq.mpr c7
            have c7b1 : (a0 != 32) = false := bne_eq_false_iff_eq.mpr c7
            clear c7
            (first | rw [c7b0] | (simp only [i64_w, i32_w]; rw [c7b0]) | skip)
            have H' := Aside0.mk H
            clear H
            go_wp2
            go_meet
            case rel => exact ⟨_, ((a0 == 32)), (by first | rfl | (simp; done) | (simp [*]; done)), H', ⟨by first | omega | exact Nat.le_refl _⟩, by repeat (first | exact Drawn0.refl _ | apply Drawn0.step)⟩
          · rw [if_neg c7] at H
            have c7b0 : (a0 == 32) = false := beq_eq_false_iff_ne.mpr c7
            have c7b1 : (a0 != 32) = true := bne_iff_ne.mpr c7
            (first | rw [c7b0] | (simp only [i64_w, i32_w]; rw [c7b0]) | skip)
            have H' := Aside0.mk H
            clear H
            go_wp2
            go_meet
            case rel => exact ⟨_, ((a0 == 160)), (by first | rfl | (simp; done) | (simp [*]; done)), H', ⟨by first | omega | exact Nat.le_refl _⟩, by repeat (first | exact Drawn0.refl _ | apply Drawn0.step)⟩
        case rest =>
          clear HC6
          try clear c1
          try clear p2
          try clear c3
          try clear c4
          try clear c4b0
          try clear c5
          try clear c5b0
          try clear c5b1
          try clear c7
          try clear c7b0
          try clear c7b1
          obtain ⟨kq, x13_5, rfl, HA, HJ5, ⟨mc5, rfl⟩⟩ := hcut
          cases kq with
          | zero => exact absurd HA.out (by simp [chars_Class.j0])
          | succ kj5 =>
            have H := HA.out
            clear HA
            simp only [chars_Class.j0] at H
            by_cases c8 : x13_5 = true
            · subst c8
              have H1 : (some 2) = some r := by rw [if_pos rfl] at H; exact H
              clear H
              have H := H1
              clear H1
              obtain rfl := Option.some.inj H
              go_wp2
              go_ret
              exact ⟨by first | rfl | (simp; done) | (simp [*]; done), by repeat (first | exact Drawn0.refl _ | apply Drawn0.step)⟩
            · replace c8 := Bool.eq_false_iff.mpr c8
              subst c8
              have H1 : (if a0 = 65533 then (some 5) else (if a0 ≥ 97 then (chars_Class.j1 kj5 a0 (decide (a0 ≤ 122))) else (chars_Class.j1 kj5 a0 false))) = some r := by rw [if_neg (show ¬ (false = true) by decide)] at H; exact H
              clear H
              have H := H1
              clear H1
              by_cases c9 : a0 = 65533
              · rw [if_pos c9] at H
                have c9b0 : (a0 == 65533) = true := beq_iff_eq.mpr c9
                have c9b1 : (a0 != 65533) = false := bne_eq_false_iff_eq.mpr c9
                clear c9
                obtain rfl := Option.some.inj H
                go_wp2
                go_ret
                exact ⟨by first | rfl | (simp; done) | (simp [*]; done), by repeat (first | exact Drawn0.refl _ | apply Drawn0.step)⟩
              · rw [if_neg c9] at H
                have c9b0 : (a0 == 65533) = false := beq_eq_false_iff_ne.mpr c9
                have c9b1 : (a0 != 65533) = true := bne_iff_ne.mpr c9
                have HC10 := Aside0.mk H
                clear H
                go_upto_region 7 with (fail)
                go_cut [21] (fun v21 wc => ∃ (kq : Nat) (x21_9 : Bool), v21 = .bool x21_9 ∧ Aside0 (chars_Class.j1 kq a0 x21_9 = some r) ∧ Aside0 (kq ≤ kj5) ∧ Drawn0 w wc)
                case first =>
                  have H := HC10.out
                  clear HC10
                  by_cases c11 : a0 ≥ 97
                  · rw [if_pos c11] at H
                    have c11b0 : decide (97 ≤ a0) = true := decide_eq_true c11
                    clear c11
                    (first | rw [c11b0] | (simp only [i64_w, i32_w]; rw [c11b0]) | skip)
                    have H' := Aside0.mk H
                    clear H
                    go_wp2
                    go_meet
                    case rel => exact ⟨_, (decide (a0 ≤ 122)), (by first | rfl | (simp; done) | (simp [*]; done)), H', ⟨by have := HJ5.out; first | omega | exact Nat.le_refl _⟩, by repeat (first | exact Drawn0.refl _ | apply Drawn0.step)⟩
                  · rw [if_neg c11] at H
                    have c11b0 : decide (97 ≤ a0) = false := decide_eq_false c11
                    clear c11
                    (first | rw [c11b0] | (simp only [i64_w, i32_w]; rw [c11b0]) | skip)
                    have H' := Aside0.mk H
                    clear H
                    go_wp2
                    go_meet
                    case rel => exact ⟨_, (false), (by first | rfl | (simp; done) | (simp [*]; done)), H', ⟨by have := HJ5.out; first | omega | exact Nat.le_refl _⟩, by repeat (first | exact Drawn0.refl _ | apply Drawn0.step)⟩
                case rest =>
                  clear HC10
                  try clear c1
                  try clear p2
                  try clear c3
                  try clear c4
                  try clear c4b0
                  try clear c5
                  try clear c5b0
                  try clear c5b1
                  try clear c7
                  try clear c7b0
                  try clear c7b1
                  try clear c8
                  try clear c9
                  try clear c9b0
                  try clear c9b1
                  try clear c11
                  try clear c11b0
                  try clear p2
                  obtain ⟨kq, x21_9, rfl, HA, HJ9, ⟨mc9, rfl⟩⟩ := hcut
                  cases kq with
                  | zero => exact absurd HA.out (by simp [chars_Class.j1])
                  | succ kj9 =>
                    have H := HA.out
                    clear HA
                    simp only [chars_Class.j1] at H
                    by_cases c12 : x21_9 = true
                    · subst c12
                      have H1 : (some 3) = some r := by rw [if_pos rfl] at H; exact H
                      clear H
                      have H := H1
                      clear H1
                      obtain rfl := Option.some.inj H
                      go_wp2
                      go_ret
                      exact ⟨by first | rfl | (simp; done) | (simp [*]; done), by repeat (first | exact Drawn0.refl _ | apply Drawn0.step)⟩
                    · replace c12 := Bool.eq_false_iff.mpr c12
                      subst c12
                      have H1 : (if a0 ≥ 65 then (chars_Class.j2 kj9 a0 (decide (a0 ≤ 90))) else (chars_Class.j2 kj9 a0 false)) = some r := by rw [if_neg (show ¬ (false = true) by decide)] at H; exact H
                      clear H
                      have H := H1
                      clear H1
                      have HC13 := Aside0.mk H
                      clear H
                      go_upto_region 8 with (fail)
                      go_cut [28] (fun v28 wc => ∃ (kq : Nat) (x28_12 : Bool), v28 = .bool x28_12 ∧ Aside0 (chars_Class.j2 kq a0 x28_12 = some r) ∧ Aside0 (kq ≤ kj9) ∧ Drawn0 w wc)
                      case first =>
                        have H := HC13.out
                        clear HC13
                        by_cases c14 : a0 ≥ 65
                        · rw [if_pos c14] at H
                          have c14b0 : decide (65 ≤ a0) = true := decide_eq_true c14
                          clear c14
                          (first | rw [c14b0] | (simp only [i64_w, i32_w]; rw [c14b0]) | skip)
                          have H' := Aside0.mk H
                          clear H
                          go_wp2
                          go_meet
                          case rel => exact ⟨_, (decide (a0 ≤ 90)), (by first | rfl | (simp; done) | (simp [*]; done)), H', ⟨by have := HJ5.out; have := HJ9.out; first | omega | exact Nat.le_refl _⟩, by repeat (first | exact Drawn0.refl _ | apply Drawn0.step)⟩
                        · rw [if_neg c14] at H
                          have c14b0 : decide (65 ≤ a0) = false := decide_eq_false c14
                          clear c14
                          (first | rw [c14b0] | (simp only [i64_w, i32_w]; rw [c14b0]) | skip)
                          have H' := Aside0.mk H
                          clear H
                          go_wp2
                          go_meet
                          case rel => exact ⟨_, (false), (by first | rfl | (simp; done) | (simp [*]; done)), H', ⟨by have := HJ5.out; have := HJ9.out; first | omega | exact Nat.le_refl _⟩, by repeat (first | exact Drawn0.refl _ | apply Drawn0.step)⟩
                      case rest =>
                        clear HC13
                        try clear c1
                        try clear p2
                        try clear c3
                        try clear c4
                        try clear c4b0
                        try clear c5
                        try clear c5b0
                        try clear c5b1
                        try clear c7
                        try clear c7b0
                        try clear c7b1
                        try clear c8
                        try clear c9
                        try clear c9b0
                        try clear c9b1
                        try clear c11
                        try clear c11b0
                        try clear c12
                        try clear c13
                        try clear c14
                        try clear c14b0
                        try clear p2
                        obtain ⟨kq, x28_12, rfl, HA, HJ12, ⟨mc12, rfl⟩⟩ := hcut
                        cases kq with
                        | zero => exact absurd HA.out (by simp [chars_Class.j2])
                        | succ kj12 =>
                          have H := HA.out
                          clear HA
                          simp only [chars_Class.j2] at H
                          by_cases c15 : x28_12 = true
                          · subst c15
                            have H1 : (some 3) = some r := by rw [if_pos rfl] at H; exact H
                            clear H
                            have H := H1
                            clear H1
                            obtain rfl := Option.some.inj H
                            go_wp2
                            go_ret
                            exact ⟨by first | rfl | (simp; done) | (simp [*]; done), by repeat (first | exact Drawn0.refl _ | apply Drawn0.step)⟩
                          · replace c15 := Bool.eq_false_iff.mpr c15
                            subst c15
                            have H1 : (if a0 ≥ 128 then (some 3) else (if a0 ≥ 48 then (if a0 ≤ 57 then (some 4) else (some 5)) else (some 5))) = some r := by rw [if_neg (show ¬ (false = true) by decide)] at H; exact H
                            clear H
                            have H := H1
                            clear H1
                            by_cases c16 : a0 ≥ 128
                            · rw [if_pos c16] at H
                              have c16b0 : decide (128 ≤ a0) = true := decide_eq_true c16
                              clear c16
                              obtain rfl := Option.some.inj H
                              go_wp2
                              go_ret
                              exact ⟨by first | rfl | (simp; done) | (simp [*]; done), by repeat (first | exact Drawn0.refl _ | apply Drawn0.step)⟩
                            · rw [if_neg c16] at H
                              have c16b0 : decide (128 ≤ a0) = false := decide_eq_false c16
                              clear c16
                              by_cases c17 : a0 ≥ 48
                              · rw [if_pos c17] at H
                                have c17b0 : decide (48 ≤ a0) = true := decide_eq_true c17
                                clear c17
                                by_cases c18 : a0 ≤ 57
                                · rw [if_pos c18] at H
                                  have c18b0 : decide (a0 ≤ 57) = true := decide_eq_true c18
                                  clear c18
                                  obtain rfl := Option.some.inj H
                                  go_wp2
                                  go_ret
                                  exact ⟨by first | rfl | (simp; done) | (simp [*]; done), by repeat (first | exact Drawn0.refl _ | apply Drawn0.step)⟩
                                · rw [if_neg c18] at H
                                  have c18b0 : decide (a0 ≤ 57) = false := decide_eq_false c18
                                  clear c18
                                  obtain rfl := Option.some.inj H
                                  go_wp2
                                  go_ret
                                  exact ⟨by first | rfl | (simp; done) | (simp [*]; done), by repeat (first | exact Drawn0.refl _ | apply Drawn0.step)⟩
                              · rw [if_neg c17] at H
                                have c17b0 : decide (48 ≤ a0) = false := decide_eq_false c17
                                clear c17
                                obtain rfl := Option.some.inj H
                                go_wp2
                                go_ret
                                exact ⟨by first | rfl | (simp; done) | (simp [*]; done), by repeat (first | exact Drawn0.refl _ | apply Drawn0.step)⟩
  · replace c3 := Bool.eq_false_iff.mpr c3
    subst c3
    have H1 : (some 0) = some r := by rw [if_neg (show ¬ (false = true) by decide)] at H; exact H
    clear H
    have H := H1
    clear H1
    obtain rfl := Option.some.inj H
    go_enter Tryd.func133, Tryd.ntmps133
    go_wp2_with (first | ((with_reducible refine gate_callee (f := 146) rfl ?_); refine goesL_ (some 5) rfl rfl Tryd.func146 (by kernel_rfl) rfl #[.int .i32 a0] rfl (by (try simp only [List.map_toArray, List.map_cons, List.map_nil]); first | done | rfl | (simp only [List.length_drop, List.length_take]; rfl)) ?_; (with_reducible refine (utf8_ValidRune.calls k a0 false _ A2.out).mono ?_); rintro e w' ⟨rfl, ⟨nd, rfl⟩⟩; refine ⟨_, rfl, ?_⟩))
    go_ret
    exact ⟨by first | rfl | (simp; done) | (simp [*]; done), by repeat (first | exact Drawn0.refl _ | apply Drawn0.step)⟩

end Go.Proofs.YtgdpknmffohhaaaDoor.Pl

namespace Go.Proofs.YtgdpknmffohhaaaDoor.Pl
open Go.RowKit Go.Proofs.YtgdpknmffohhaaaDoorW.PrintWords Go.Proofs.YtgdpknmffohhaaaDoorW.PrintLast Go.Proofs.YtgdpknmffohhaaaDoorW.PrintMore
attribute [local go_sem] max2_int min2_int max_two min_two max_three min_three max_four min_four   -- for this text's walks alone
set_option linter.unusedVariables false
set_option linter.unusedSimpArgs false

/-! ### chars_May: function 114 -/
def chars_May.f (k : Nat) (a0 : Int) : Option (Bool) := (chars_Class.f k a0).bind fun t151 => (some (decide (t151 > 1)))
set_option maxHeartbeats 8000000 in
set_option maxRecDepth 100000 in
theorem chars_May.calls (k : Nat) (a0 : Int) (r : Bool) (w : World) (h : chars_May.f k a0 = some r) :
    Calls Tryd.prog 114 #[.int .i32 a0] w fun e w' => e = .returned (.bool r) ∧ Drawn0 w w' := by
  have H : ((chars_Class.f k a0).bind fun t151 => (some (decide (t151 > 1)))) = some r := h
  clear h
  replace H := Option.bind_eq_some_iff.mp H
  obtain ⟨t151, A20, H⟩ := H
  replace H : (some (decide (t151 > 1))) = some r := H
  have A2 := Aside0.mk A20
  clear A20
  obtain rfl := Option.some.inj H
  go_enter Tryd.func114, Tryd.ntmps114
  go_wp2_with (first | ((with_reducible refine gate_callee (f := 133) rfl ?_); refine goesL_ (some 4) rfl rfl Tryd.func133 (by kernel_rfl) rfl #[.int .i32 a0] rfl (by (try simp only [List.map_toArray, List.map_cons, List.map_nil]); first | done | rfl | (simp only [List.length_drop, List.length_take]; rfl)) ?_; (with_reducible refine (chars_Class.calls k a0 t151 _ A2.out).mono ?_); rintro e w' ⟨rfl, ⟨nd, rfl⟩⟩; refine ⟨_, rfl, ?_⟩))
  go_ret
  exact ⟨by first | rfl | (simp; done) | (simp [*]; done), by repeat (first | exact Drawn0.refl _ | apply Drawn0.step)⟩

end Go.Proofs.YtgdpknmffohhaaaDoor.Pl

namespace Go.Proofs.YtgdpknmffohhaaaDoor.Pl
open Go.RowKit Go.Proofs.YtgdpknmffohhaaaDoorW.PrintWords Go.Proofs.YtgdpknmffohhaaaDoorW.PrintLast Go.Proofs.YtgdpknmffohhaaaDoorW.PrintMore
attribute [local go_sem] max2_int min2_int max_two min_two max_three min_three max_four min_four   -- for this text's walks alone
set_option linter.unusedVariables false
set_option linter.unusedSimpArgs false

/-! ### attrs_Value: function 144 (given) -/
def mayR_ (c : Int) : Bool := decide (32 ≤ c ∧ c ≠ 127 ∧ (c < 55296 ∨ (57343 < c ∧ c ≤ 1114111)))
theorem class2_ (k : Nat) (c : Int) (b : Bool) : ∃ v, v > 1 ∧ chars_Class.j2 (k + 1) c b = some v := by
  simp only [chars_Class.j2]
  repeat' split
  all_goals exact ⟨_, by decide, rfl⟩
theorem class1_ (k : Nat) (c : Int) (b : Bool) : ∃ v, v > 1 ∧ chars_Class.j1 (k + 2) c b = some v := by
  simp only [chars_Class.j1]
  repeat' split
  · exact ⟨_, by decide, rfl⟩
  all_goals exact class2_ _ _ _
theorem class0_ (k : Nat) (c : Int) (b : Bool) : ∃ v, v > 1 ∧ chars_Class.j0 (k + 3) c b = some v := by
  simp only [chars_Class.j0]
  repeat' split
  · exact ⟨_, by decide, rfl⟩
  · exact ⟨_, by decide, rfl⟩
  all_goals exact class1_ _ _ _
theorem valid_is_ (c : Int) : utf8_ValidRune.f 20 c = some (decide (0 ≤ c ∧ (c < 55296 ∨ (57343 < c ∧ c ≤ 1114111)))) := by
  simp only [utf8_ValidRune.f, utf8_ValidRune.j0]
  by_cases h0 : 0 ≤ c
  · rw [if_pos h0]
    by_cases h1 : c < 55296
    · rw [decide_eq_true h1, if_pos rfl, decide_eq_true ⟨h0, .inl h1⟩]
    · rw [decide_eq_false h1, if_neg (by decide)]
      by_cases h2 : 57343 < c
      · rw [if_pos h2]
        by_cases h3 : c ≤ 1114111
        · rw [if_pos h3, decide_eq_true ⟨h0, .inr ⟨h2, h3⟩⟩]
        · rw [if_neg h3, decide_eq_false (by omega)]
      · rw [if_neg h2, decide_eq_false (by omega)]
  · rw [if_neg h0, if_neg (by decide)]
    by_cases h2 : 57343 < c
    · omega
    · rw [if_neg h2, decide_eq_false (by omega)]
theorem may_is_ (c : Int) : chars_May.f 20 c = some (mayR_ c) := by
  unfold chars_May.f chars_Class.f mayR_
  rw [valid_is_, Option.bind_some]
  by_cases hv : 0 ≤ c ∧ (c < 55296 ∨ (57343 < c ∧ c ≤ 1114111))
  · rw [decide_eq_true hv, if_pos rfl]
    by_cases h1 : c < 32
    · rw [if_pos h1, decide_eq_false (by omega)]
      rfl
    · rw [if_neg h1]
      by_cases h2 : c = 127
      · rw [if_pos h2, decide_eq_false (by omega)]
        rfl
      · rw [if_neg h2]
        have hy : decide (32 ≤ c ∧ c ≠ 127 ∧ (c < 55296 ∨ (57343 < c ∧ c ≤ 1114111))) = true := decide_eq_true ⟨by omega, h2, hv.2⟩
        rw [hy]
        by_cases h3 : c = 32
        · rw [if_pos h3]
          obtain ⟨v, h, e⟩ := class0_ 17 c (c == 32)
          rw [e, Option.bind_some, decide_eq_true h]
        · rw [if_neg h3]
          obtain ⟨v, h, e⟩ := class0_ 17 c (c == 160)
          rw [e, Option.bind_some, decide_eq_true h]
  · rw [decide_eq_false hv, if_neg (by decide), decide_eq_false (by omega)]
    rfl
def runesMay_ (s : ByteArray) : Nat → Nat → Bool
  | 0, _ => true
  | k + 1, pos => if pos < s.size then (if mayR_ ((Utf8.decode s pos).1 : Int) = true then runesMay_ s k (pos + (Utf8.decode s pos).2) else false) else true
def isValue_ (s : ByteArray) : Bool := runesMay_ s (s.size + 1) 0 && (decide (s.size ≤ 200) && Lib.validD s.data.toList)
set_option maxRecDepth 100000 in
set_option maxHeartbeats 4000000 in
theorem value_calls_ (s : ByteArray) (w : World) (hs : s.size ≤ 9223372036854775807) (hT : Lib.Utf8Tabs 0 1 w) :
    Calls Tryd.prog 144 #[.string s] w fun e w' => e = .returned (.bool (isValue_ s)) ∧ Below w.heap.size w w' := by
  obtain ⟨V, hV⟩ : ∃ V, runesMay_ s (s.size + 1) 0 = V := ⟨_, rfl⟩
  go_enter Tryd.func144, Tryd.ntmps144
  go_wp2
  go_loopg [2] (s.size + 1) (fun gk s2 wx => s2 = .bool false ∧ ∃ pos : Nat, wx.heap[w.heap.size]? = some (.stringIter s pos) ∧ Below w.heap.size w wx ∧ runesMay_ s gk pos = V ∧ pos ≤ s.size ∧ s.size < pos + gk)
  case atStart => exact ⟨rfl, 0, by simpa using World.iter_heap w s 0, (Below.refl _ w).alloc (Nat.le_refl _) _, hV, Nat.zero_le _, by omega⟩
  case round =>
    obtain ⟨rfl, pos, hit, hbw, hR, hps, hfu⟩ := hrel
    obtain ⟨g', rfl⟩ : ∃ g', gk = g' + 1 := ⟨gk - 1, by omega⟩
    simp only [runesMay_] at hR
    by_cases hlt : pos < s.size
    · have hnx : ∀ ty, (Instr.next (.pointer (some ⟨w.heap.size, 0, none⟩)) true ty).run Tryd.prog wr = _ := fun ty => Lib.run_next_any_at wr w.heap.size s pos ty hit hlt
      rw [if_pos hlt] at hR
      have hwd := Lib.width_pos s pos
      have hrl := Lib.rune_le s pos
      have hlen : s.data.toList.length = s.size := (Lib.size_eq s).symm
      have hne : s.data.toList.drop pos ≠ [] := by
        intro h0
        have := congrArg List.length h0
        rw [List.length_drop, hlen] at this
        simp at this
        omega
      have hwn : pos + (Utf8.decode s pos).2 ≤ s.size := by
        have := Lib.decodeL_le _ hne
        rw [Lib.decodeL_drop, List.length_drop, hlen] at this
        omega
      clear hne hlen
      obtain ⟨R, hR'⟩ : ∃ R, (Utf8.decode s pos).1 = R := ⟨_, rfl⟩
      obtain ⟨K, hK⟩ : ∃ K, (Utf8.decode s pos).2 = K := ⟨_, rfl⟩
      rw [hR', hK] at hnx hR
      rw [hK] at hwd hwn
      rw [hR'] at hrl
      clear hR' hK
      have hit2 := Lib.iterAt_heap wr w.heap.size s pos (pos + K) hit
      have hbw2 := Lib.below_iterAt hbw (k := w.heap.size) (by omega) s (pos + K)
      obtain ⟨W, hWd⟩ : ∃ W, wr.iterAt w.heap.size s (pos + K) = W := ⟨_, rfl⟩
      rw [hWd] at hnx hit2 hbw2
      clear hWd hit hbw
      have HC := Aside0.mk (fun x => chars_May.calls 20 (R : Int) (mayR_ (R : Int)) x (may_is_ (R : Int)))
      have HR := Aside0.mk hR
      clear hR
      cases hm : mayR_ (R : Int) with
      | true =>
        rw [hm] at HC HR
        go_wp2_with (go_at_call 114; refine (HC.out _).mono ?_; rintro e w' ⟨rfl, ⟨nd, rfl⟩⟩)
        go_roundg g'
        case measure => omega
        case rel => exact ⟨rfl, pos + K, hit2, pw_below_drewN hbw2 nd, by simpa using HR.out, hwn, by omega⟩
      | false =>
        rw [hm] at HC HR
        have hVf : V = false := by have := HR.out; rw [if_neg (by decide)] at this; exact this.symm
        go_wp2_with (go_at_call 114; refine (HC.out _).mono ?_; rintro e w' ⟨rfl, ⟨nd, rfl⟩⟩)
        go_ret
        exact ⟨by unfold isValue_; rw [hV, hVf]; rfl, pw_below_drewN hbw2 nd⟩
    · have hnx : ∀ ty, (Instr.next (.pointer (some ⟨w.heap.size, 0, none⟩)) true ty).run Tryd.prog wr = _ := fun ty => Lib.run_next_end_at wr w.heap.size s pos ty hit hlt
      rw [if_neg hlt] at hR
      have HV := Aside0.mk (show isValue_ s = (decide (s.size ≤ 200) && Lib.validD s.data.toList) by unfold isValue_; rw [hV, ← hR]; rfl)
      have HT := Aside0.mk (show Lib.Utf8Tabs 0 1 wr from ⟨fun c hc => (hbw.cell (World.block_lt_of_cell? w _ (hT.1 c hc))).trans (hT.1 c hc), fun i hi => ⟨(hbw.cell (World.block_lt_of_cell? w _ (hT.2 i hi).1)).trans (hT.2 i hi).1, (hbw.cell (World.block_lt_of_cell? w _ (hT.2 i hi).2)).trans (hT.2 i hi).2⟩⟩)
      have HB := Aside0.mk hbw
      clear hR hbw hT hV
      by_cases h2 : (s.size : Int) ≤ 200
      · have h2b : decide ((s.size : Int) ≤ 200) = true := decide_eq_true h2
        have h2c : decide (s.size ≤ 200) = true := decide_eq_true (by omega)
        rw [h2c] at HV
        clear h2
        go_wp2_with (go_at_call 156; refine (Tryd.utf8_ValidString s _ hs HT.out).mono ?_; rintro e w' ⟨rfl, hb⟩; have HB2 := Aside0.mk hb; clear hb)
        go_ret
        exact ⟨by rw [HV.out]; rfl, HB.out.trans (HB2.out.mono HB.out.size)⟩
      · have h2b : decide ((s.size : Int) ≤ 200) = false := decide_eq_false h2
        have h2c : decide (s.size ≤ 200) = false := decide_eq_false (by omega)
        rw [h2c] at HV
        clear h2
        go_wp2
        go_ret
        exact ⟨by rw [HV.out]; rfl, HB.out⟩

end Go.Proofs.YtgdpknmffohhaaaDoor.Pl

namespace Go.Proofs.YtgdpknmffohhaaaDoor.Pl
open Go.RowKit Go.Proofs.YtgdpknmffohhaaaDoorW.PrintWords Go.Proofs.YtgdpknmffohhaaaDoorW.PrintLast Go.Proofs.YtgdpknmffohhaaaDoorW.PrintMore
attribute [local go_sem] max2_int min2_int max_two min_two max_three min_three max_four min_four   -- for this text's walks alone
set_option linter.unusedVariables false
set_option linter.unusedSimpArgs false

/-! ### attrs_Target: function 130 (given) -/
theorem tabs_below_ {g3 g4 : Nat} {w wr : World} (hT : Lib.Utf8Tabs g3 g4 w) (hbw : Below w.heap.size w wr) : Lib.Utf8Tabs g3 g4 wr :=
  ⟨fun c hc => (hbw.cell (World.block_lt_of_cell? w _ (hT.1 c hc))).trans (hT.1 c hc), fun i hi => ⟨(hbw.cell (World.block_lt_of_cell? w _ (hT.2 i hi).1)).trans (hT.2 i hi).1, (hbw.cell (World.block_lt_of_cell? w _ (hT.2 i hi).2)).trans (hT.2 i hi).2⟩⟩
def low_ (c : Int) : Int := if 65 ≤ c ∧ c ≤ 90 then c + 32 else c
set_option maxHeartbeats 4000000 in
theorem low_calls_ (c : Int) (hc : 0 ≤ c ∧ c ≤ 1114111) (w : World) : Calls Tryd.prog 143 #[.int .i32 c] w fun e w' => e = .returned (.int .i32 (low_ c)) ∧ Below w.heap.size w w' := by
  unfold low_
  by_cases h1 : 65 ≤ c
  · have h1b : decide (65 ≤ c) = true := decide_eq_true h1
    by_cases h2 : c ≤ 90
    · have h2b : decide (c ≤ 90) = true := decide_eq_true h2
      rw [if_pos ⟨h1, h2⟩]
      go_enter Tryd.func143, Tryd.ntmps143
      have hw : wrap32 (c + 32) = c + 32 := by unfold wrap32; omega
      go_wp2
      go_ret
      exact ⟨rfl, Below.refl _ _⟩
    · have h2b : decide (c ≤ 90) = false := decide_eq_false h2
      rw [if_neg (by omega)]
      go_enter Tryd.func143, Tryd.ntmps143
      go_wp2
      go_ret
      exact ⟨rfl, Below.refl _ _⟩
  · have h1b : decide (65 ≤ c) = false := decide_eq_false h1
    rw [if_neg (by omega)]
    go_enter Tryd.func143, Tryd.ntmps143
    go_wp2
    go_ret
    exact ⟨rfl, Below.refl _ _⟩
theorem low_fits_ (x : Nat) (h : x ≤ 1114111) : -2147483648 ≤ low_ x ∧ low_ x ≤ 2147483647 := by
  unfold low_
  split <;> omega
def head_ (s : ByteArray) : ByteArray := ⟨(Lib.cut s.data.toList [58]).1.toArray⟩
def lowed_ (s : ByteArray) : ByteArray := ⟨(Lib.mapD low_ (head_ s).data.toList).toArray⟩
def script_ (s : ByteArray) : Bool := (lowed_ s).toList == [106, 97, 118, 97, 115, 99, 114, 105, 112, 116]
def ends_ (s : ByteArray) : Bool := if h : 0 < s.size then (decide (¬ ((s[0]'h).toNat : Int) = 32) && decide (¬ ((s[s.size - 1]'(by omega)).toNat : Int) = 32)) else false
def target_ (s : ByteArray) : Bool := isValue_ s && (ends_ s && !script_ s)
theorem empty_size_ (s : ByteArray) (h : s.toList = []) : s.size = 0 := by
  rw [ByteArray.toList_eq] at h
  rw [← data_length, h]
  rfl
theorem size_empty_ (s : ByteArray) (h : s.size = 0) : s.toList = [] := by
  rw [ByteArray.toList_eq]
  exact List.eq_nil_of_length_eq_zero (by rw [data_length, h])
theorem head_size_ (s : ByteArray) : (head_ s).size ≤ s.size := by
  rw [← data_length, ← data_length]
  unfold head_ Lib.cut
  split
  · simp
    omega
  · simp
set_option maxRecDepth 100000 in
set_option maxHeartbeats 4000000 in
theorem target_calls_ (s : ByteArray) (w : World) (m : Int) (hs : s.size < 4294967281) (hT : Lib.Utf8Tabs 0 1 w) (hm : w.cell? ⟨2, 0, none⟩ = some (.int .i64 m)) :
    Calls Tryd.prog 130 #[.string s] w fun e w' => e = .returned (.bool (target_ s)) ∧ Below w.heap.size w w' := by
  have hS : (head_ s).size < 35184372088832 := by have := head_size_ s; omega
  have hM : ∀ w, MapGrows Tryd.prog 143 #[] low_ w := fun w W x hx hb => low_calls_ x (by omega) W
  have HM := Aside0.mk (fun nd => (Tryd.strings_Map_grows 143 #[] (enters_of Tryd.func143 (by kernel_rfl) rfl) low_ (head_ s) (w.drewN nd) hS (hM _) low_fits_ hT).mono fun e w' (h : _ ∧ _) => (⟨h.1, (pw_below_drewN (Below.refl w.heap.size w) nd).trans h.2⟩ : e = .returned (.string (lowed_ s)) ∧ Below w.heap.size w w'))
  have HV := Aside0.mk (fun W (hW : Below w.heap.size w W) => value_calls_ s W (by omega) (tabs_below_ hT hW))
  clear hS hM hT
  unfold target_
  cases hb : isValue_ s with
  | false =>
    rw [hb] at HV
    clear hb
    go_enter Tryd.func130, Tryd.ntmps130
    go_wp2_with (first | (go_at_call 141; refine (Tryd.strings_Cut s ⟨#[58]⟩ m _ hs hm).mono ?_; rintro e w' ⟨rfl, ⟨nd, rfl⟩⟩) | (go_at_call 142; refine (HM.out _).mono ?_; rintro e w' ⟨rfl, hb⟩; have HB := Aside0.mk hb; clear hb) | (go_at_call 144; refine (HV.out _ HB.out).mono ?_; rintro e w' ⟨rfl, hb⟩; have HB2 := Aside0.mk hb; clear hb))
    go_ret
    exact ⟨rfl, HB.out.trans (HB2.out.mono HB.out.size)⟩
  | true =>
    rw [hb] at HV
    clear hb
    by_cases h0 : 0 < s.size
    · have hE := Aside0.mk (show ends_ s = (decide (¬ ((s[0]'h0).toNat : Int) = 32) && decide (¬ ((s[s.size - 1]'(by omega)).toNat : Int) = 32)) by unfold ends_; rw [dif_pos h0])
      go_enter Tryd.func130, Tryd.ntmps130
      go_wp2_with (first | (go_at_call 141; refine (Tryd.strings_Cut s ⟨#[58]⟩ m _ hs hm).mono ?_; rintro e w' ⟨rfl, ⟨nd, rfl⟩⟩) | (go_at_call 142; refine (HM.out _).mono ?_; rintro e w' ⟨rfl, hb⟩; have HB := Aside0.mk hb; clear hb) | (go_at_call 144; refine (HV.out _ HB.out).mono ?_; rintro e w' ⟨rfl, hb⟩; have HB2 := Aside0.mk hb; clear hb))
      · rename_i he
        exact absurd (empty_size_ s he) (by omega)
      · rename_i he h1
        go_ret
        exact ⟨by rw [hE.out, decide_eq_false (fun h => h h1)]; rfl, HB.out.trans (HB2.out.mono HB.out.size)⟩
      · rename_i he h1 hx h2
        go_ret
        exact ⟨by rw [hE.out, decide_eq_true h1, decide_eq_false (fun h => h h2)]; rfl, HB.out.trans (HB2.out.mono HB.out.size)⟩
      · rename_i he h1 hx h2
        go_ret
        exact ⟨by rw [hE.out]; simp [he, h1, h2, script_], HB.out.trans (HB2.out.mono HB.out.size)⟩
    · have hE := Aside0.mk (show ends_ s = false by unfold ends_; rw [dif_neg h0])
      have he := size_empty_ s (by omega)
      go_enter Tryd.func130, Tryd.ntmps130
      go_wp2_with (first | (go_at_call 141; refine (Tryd.strings_Cut s ⟨#[58]⟩ m _ hs hm).mono ?_; rintro e w' ⟨rfl, ⟨nd, rfl⟩⟩) | (go_at_call 142; refine (HM.out _).mono ?_; rintro e w' ⟨rfl, hb⟩; have HB := Aside0.mk hb; clear hb) | (go_at_call 144; refine (HV.out _ HB.out).mono ?_; rintro e w' ⟨rfl, hb⟩; have HB2 := Aside0.mk hb; clear hb))
      go_ret
      exact ⟨by rw [hE.out]; rfl, HB.out.trans (HB2.out.mono HB.out.size)⟩

end Go.Proofs.YtgdpknmffohhaaaDoor.Pl

namespace Go.Proofs.YtgdpknmffohhaaaDoor.Pl
open Go.RowKit Go.Proofs.YtgdpknmffohhaaaDoorW.PrintWords Go.Proofs.YtgdpknmffohhaaaDoorW.PrintLast Go.Proofs.YtgdpknmffohhaaaDoorW.PrintMore
attribute [local go_sem] max2_int min2_int max_two min_two max_three min_three max_four min_four   -- for this text's walks alone
set_option linter.unusedVariables false
set_option linter.unusedSimpArgs false

/-! ### cells_May: function 66 (given) -/
/-- what the text of the library reads of the program's variables -/
def Gl_ (w : World) : Prop := Lib.Utf8Tabs 0 1 w ∧ ∃ m, w.cell? ⟨2, 0, none⟩ = some (.int .i64 m)
theorem Gl_.below {w W : World} (h : Gl_ w) (hW : Below w.heap.size w W) : Gl_ W :=
  ⟨tabs_below_ h.1 hW, by obtain ⟨m, hm⟩ := h.2; exact ⟨m, (hW.cell (World.block_lt_of_cell? w _ hm)).trans hm⟩⟩
theorem Gl_.at_ {w W : World} (h : Aside0 (Gl_ w)) (hW : Aside0 (Below w.heap.size w W)) : Gl_ W := h.out.below hW.out
def link_ (s : ByteArray) : Bool := s.toList.isEmpty || target_ s
set_option maxHeartbeats 4000000 in
theorem link_calls_ (s : ByteArray) (w : World) (hs : s.size < 4294967281) (hG : Gl_ w) : Calls Tryd.prog 105 #[.string s] w fun e w' => e = .returned (.bool (link_ s)) ∧ Below w.heap.size w w' := by
  obtain ⟨hT, m, hm⟩ := hG
  have HT := Aside0.mk (target_calls_ s w m hs hT hm)
  clear hT hm
  unfold link_
  cases he : s.toList.isEmpty with
  | true =>
    have he2 : (s.toList == ([] : List UInt8)) = true := by simpa using he
    go_enter Tryd.func105, Tryd.ntmps105
    go_wp2
    go_ret
    exact ⟨by simp [he], Below.refl _ _⟩
  | false =>
    have he2 : (s.toList == ([] : List UInt8)) = false := by simpa using he
    go_enter Tryd.func105, Tryd.ntmps105
    go_wp2_with (go_at_call 130; refine HT.out.mono ?_; rintro e w' ⟨rfl, hb⟩; have HB := Aside0.mk hb; clear hb)
    go_ret
    exact ⟨by simp [he], HB.out⟩
def bad_ (x : S71) : Bool := (!(mayR_ x.f0) && x.f0 != 10) || (decide (x.f1 < 0) || (decide (15 < x.f1) || !(link_ x.f2)))
set_option maxRecDepth 100000 in
set_option maxHeartbeats 4000000 in
theorem bad_calls_ (x : S71) (w : World) (hs : x.f2.size < 4294967281) (hG : Gl_ w) : Calls Tryd.prog 113 #[argC_ x] w fun e w' => e = .returned (.bool (bad_ x)) ∧ Below w.heap.size w w' := by
  have hu30 := Tryd.underlying71
  have HL := Aside0.mk (fun W (hW : Below w.heap.size w W) => link_calls_ x.f2 W hs (hG.below hW))
  have HM := Aside0.mk (fun W => chars_May.calls 20 x.f0 (mayR_ x.f0) W (may_is_ x.f0))
  clear hG
  unfold argC_
  cases hm : mayR_ x.f0 with
  | true =>
    rw [hm] at HM
    go_enter Tryd.func113, Tryd.ntmps113
    go_wp2_with (first | (go_at_call 114; refine (HM.out _).mono ?_; rintro e w' ⟨rfl, ⟨nd, rfl⟩⟩) | (go_at_call 105; refine (HL.out _ (by repeat (first | exact Below.refl _ _ | apply below_alloc | apply pw_below_drewN))).mono ?_; rintro e w' ⟨rfl, hb⟩; have HB := Aside0.mk hb; clear hb))
    all_goals
      go_ret
      first
      | exact ⟨by simp [bad_, Bool.or_assoc, *], (pw_below_drewN (below_alloc (Below.refl _ _) _) _).trans (HB.out.mono (by simp))⟩
      | exact ⟨by simp [bad_, Bool.or_assoc, *], pw_below_drewN (below_alloc (Below.refl _ _) _) _⟩
      | (exfalso; omega)
  | false =>
    rw [hm] at HM
    by_cases h10 : x.f0 = 10
    · have h10b : (x.f0 != 10) = false := bne_eq_false_iff_eq.mpr h10
      clear h10
      go_enter Tryd.func113, Tryd.ntmps113
      go_wp2_with (first | (go_at_call 114; refine (HM.out _).mono ?_; rintro e w' ⟨rfl, ⟨nd, rfl⟩⟩) | (go_at_call 105; refine (HL.out _ (by repeat (first | exact Below.refl _ _ | apply below_alloc | apply pw_below_drewN))).mono ?_; rintro e w' ⟨rfl, hb⟩; have HB := Aside0.mk hb; clear hb))
      all_goals
        go_ret
        first
        | exact ⟨by simp [bad_, Bool.or_assoc, *], (pw_below_drewN (below_alloc (Below.refl _ _) _) _).trans (HB.out.mono (by simp))⟩
        | exact ⟨by simp [bad_, Bool.or_assoc, *], pw_below_drewN (below_alloc (Below.refl _ _) _) _⟩
        | (exfalso; omega)
    · have h10b : (x.f0 != 10) = true := bne_iff_ne.mpr h10
      clear h10
      go_enter Tryd.func113, Tryd.ntmps113
      go_wp2_with (first | (go_at_call 114; refine (HM.out _).mono ?_; rintro e w' ⟨rfl, ⟨nd, rfl⟩⟩) | (go_at_call 105; refine (HL.out _ (by repeat (first | exact Below.refl _ _ | apply below_alloc | apply pw_below_drewN))).mono ?_; rintro e w' ⟨rfl, hb⟩; have HB := Aside0.mk hb; clear hb))
      all_goals
        go_ret
        first
        | exact ⟨by simp [bad_, Bool.or_assoc, *], (pw_below_drewN (below_alloc (Below.refl _ _) _) _).trans (HB.out.mono (by simp))⟩
        | exact ⟨by simp [bad_, Bool.or_assoc, *], pw_below_drewN (below_alloc (Below.refl _ _) _) _⟩
        | (exfalso; omega)
def cells_May.f (l0 : List S71) : Option Bool := if (l0.all fun x => decide (x.f2.size < 4294967281)) = true then some (!(l0.any bad_)) else none
set_option maxHeartbeats 4000000 in
theorem cells_May.calls (A0 : Option Addr) (c0 : Nat) (l0 : List (S71)) (r : Bool) (w : World) (hr0 : Kd.C k71 w A0 l0.length l0) (hc0 : l0.length ≤ c0) (h : cells_May.f l0 = some r) (hG : Gl_ w := by first | exact Aside0.out (by assumption) | exact Gl_.at_ (by assumption) ⟨by repeat (first | exact Aside0.out (by assumption) | apply below_alloc | apply pw_below_drewN | apply below_drew1)⟩) :
    Calls Tryd.prog 66 #[.slice A0 l0.length c0] w fun e w' => e = .returned (.bool r) ∧ Below w.heap.size w w' := by
  unfold cells_May.f at h
  by_cases hl : (l0.all fun x => decide (x.f2.size < 4294967281)) = true
  · rw [if_pos hl] at h
    obtain rfl := Option.some.inj h
    clear h
    have HK := Aside0.mk (containsC_ A0 c0 l0 113 #[] bad_ w hr0 hc0 (enters_of Tryd.func113 (by kernel_rfl) rfl)
      (fun x hx W hW => bad_calls_ x W (of_decide_eq_true (List.all_eq_true.1 hl x hx)) (hG.below hW)))
    clear hr0 hG hl
    go_enter Tryd.func66, Tryd.ntmps66
    go_wp2_with (go_at_call 109; refine HK.out.mono ?_; rintro e w' ⟨rfl, hb⟩; have HB := Aside0.mk hb; clear hb)
    go_ret
    exact ⟨rfl, HB.out⟩
  · rw [if_neg hl] at h
    exact absurd h (by simp)

end Go.Proofs.YtgdpknmffohhaaaDoor.Pl

namespace Go.Proofs.YtgdpknmffohhaaaDoor.Pl
open Go.RowKit Go.Proofs.YtgdpknmffohhaaaDoorW.PrintWords Go.Proofs.YtgdpknmffohhaaaDoorW.PrintLast Go.Proofs.YtgdpknmffohhaaaDoorW.PrintMore
attribute [local go_sem] max2_int min2_int max_two min_two max_three min_three max_four min_four   -- for this text's walks alone
set_option linter.unusedVariables false
set_option linter.unusedSimpArgs false

/-! ### slices_Clone_int: function 86 (given) -/
def slices_Clone_int.f (l0 : List Int) : Option (List Int) := if l0.length < 17592186044416 then some l0 else none
set_option maxHeartbeats 1000000 in
theorem slices_Clone_int.calls (A0 : Option Addr) (c0 : Nat) (l0 : List Int) (r : List Int) (w : World) (hr0 : Kd.C (Kd.int .i64) w A0 l0.length l0) (hc0 : l0.length ≤ c0) (h : slices_Clone_int.f l0 = some r) :
    Calls Tryd.prog 86 #[.slice A0 l0.length c0] w fun e w' => ∃ v0_ : Value, e = .returned (v0_) ∧ Kd.R (Kd.int .i64) 3 w' w.heap.size (fun _ => True) v0_ r ∧ Below w.heap.size w w' := by
  have HR0 := Aside0.mk hr0
  clear hr0 hc0
  have HB := Aside0.mk (Below.refl w.heap.size w)
  have q : ∀ (w : World) (a : Option Addr) (n c n' c' : Nat), (binOp .eql 35 (.slice a n c) (.slice none n' c')).run Tryd.prog w = .ok (.bool a.isNone) w := fun w a n c n' c' => Lib.run_eql_slice_nil w _ _ a n c n' c' Tryd.underlying35
  unfold slices_Clone_int.f at h
  by_cases c2 : l0.length < 17592186044416
  · rw [if_pos c2] at h
    obtain rfl := Option.some.inj h
    have LM := Aside0.mk c2
    clear c2 h
    cases A0 with
    | none =>
      have h0 : l0 = [] := by
        rcases Nat.eq_zero_or_pos l0.length with h | h
        · exact List.eq_nil_of_length_eq_zero h
        · obtain ⟨ad, h, _⟩ := HR0.out.2.2 h
          cases h
      subst h0
      go_enter Tryd.func86, Tryd.ntmps86
      go_wp2
      go_ret
      exact ⟨_, rfl, Kd.R_nil _ _ _ _ _, Below.refl _ _⟩
    | some ad =>
      go_enter Tryd.func86, Tryd.ntmps86
      go_wp2_with (first | ((with_reducible refine gate_dst (N := 5) rfl ?_); refine Kd.R_lit (Kd.int .i64) _ 3 ?hg (N := 5) ?hd (xs := ([] : List Int)) (inner := []) (ok := fun _ => True) (okp := fun _ => True) ?hr ?hp (fun _ hk => hk) trivial (Below.refl _ _) (Nat.le_refl _) (by simp) ?_; (case hd => rfl); (case hg => rfl); (case hr => first | (go_simp; done) | (go_simp; rfl)); (case hp => exact (Reps.none _ _)); intro v148 w3 ho4 hb hg_ hnew_; clear hg_ hnew_; have n0_ := Aside0.mk (Kd.R_lower ho4 (below_size (by repeat (first | (with_reducible first | exact HB.out | apply below_alloc | apply pw_below_drewN | apply below_drew1) | exact HB.out)))); have n1_ := Aside0.mk (below_step (by repeat (first | (with_reducible first | exact HB.out | apply below_alloc | apply pw_below_drewN | apply below_drew1) | exact HB.out)) hb); clear HB; have HO149 := n0_; have HB := n1_; clear n0_ n1_; clear hb ho4) | ((with_reducible refine gate_builtin (b := .append) (xs := #[.tmp 5, .tmp 6]) rfl ?_); at_builtin; refine Kd.R_append_rows (Kd.int .i64) (w0 := w) w.heap.size rfl (.tmp 5) (.tmp 6) 35 3 (.int .i64 0) 8 rfl Tryd.underlying35 info3 rfl (by decide) (by omega) v148 ([] : List Int) l0 _ _ _ (fun _ => True) (fun _ => False) rfl rfl ?aO ?aR (fun _ _ h => h) (fun _ h => h.elim) ?aF ?aB ?aS ?aL ?_; (case aR => repeat (first | exact (Kd.C_below HR0.out HB.out) | (with_reducible refine Kd.C_alloc ?_ _) | (with_reducible refine Kd.C_drewN ?_ _) | (with_reducible refine Kd.C_drew ?_))); (case aB => exact (by repeat (first | (with_reducible first | exact HB.out | apply below_alloc | apply pw_below_drewN | apply below_drew1) | exact HB.out))); (case aF => exact (fun _ _ => trivial)); (case aO => exact (by (with_reducible repeat (first | apply Kd.R_alloc | apply Kd.R_drewN | apply Kd.R_drew)); exact HO149.out)); (case aS => exact (below_size (by repeat (first | (with_reducible first | exact HB.out | apply below_alloc | apply pw_below_drewN | apply below_drew1) | exact HB.out)))); (case aL => have h_ := LM.out; simp only [List.length_nil]; omega); intro v151 w5 ho hb hg hat; rw [List.nil_append] at ho; have n0_ := Aside0.mk (hb); have n1_ := Aside0.mk (ho); clear HB; clear HO149; have HB := n0_; have HO152 := n1_; clear n0_ n1_; clear ho hb hg hat))
      go_ret
      exact ⟨_, rfl, HO152.out, HB.out⟩
  · rw [if_neg c2] at h
    exact absurd h (by simp)

end Go.Proofs.YtgdpknmffohhaaaDoor.Pl

namespace Go.Proofs.YtgdpknmffohhaaaDoor.Pl
open Go.RowKit Go.Proofs.YtgdpknmffohhaaaDoorW.PrintWords Go.Proofs.YtgdpknmffohhaaaDoorW.PrintLast Go.Proofs.YtgdpknmffohhaaaDoorW.PrintMore
attribute [local go_sem] max2_int min2_int max_two min_two max_three min_three max_four min_four   -- for this text's walks alone
set_option linter.unusedVariables false
set_option linter.unusedSimpArgs false

/-! ### slices_Clone_Cell: function 87 (given) -/
def slices_Clone_Cell.f (l0 : List (S71)) : Option (List (S71)) := if l0.length < 4398046511104 then some l0 else none
set_option maxHeartbeats 1000000 in
theorem slices_Clone_Cell.calls (A0 : Option Addr) (c0 : Nat) (l0 : List (S71)) (r : List (S71)) (w : World) (hr0 : Kd.C k71 w A0 l0.length l0) (hc0 : l0.length ≤ c0) (h : slices_Clone_Cell.f l0 = some r) :
    Calls Tryd.prog 87 #[.slice A0 l0.length c0] w fun e w' => ∃ v0_ : Value, e = .returned (v0_) ∧ Kd.R k71 71 w' w.heap.size (fun _ => True) v0_ r ∧ Below w.heap.size w w' := by
  have HR0 := Aside0.mk hr0
  clear hr0 hc0
  have HB := Aside0.mk (Below.refl w.heap.size w)
  have q : ∀ (w : World) (a : Option Addr) (n c n' c' : Nat), (binOp .eql 36 (.slice a n c) (.slice none n' c')).run Tryd.prog w = .ok (.bool a.isNone) w := fun w a n c n' c' => Lib.run_eql_slice_nil w _ _ a n c n' c' Tryd.underlying36
  unfold slices_Clone_Cell.f at h
  by_cases c2 : l0.length < 4398046511104
  · rw [if_pos c2] at h
    obtain rfl := Option.some.inj h
    have LM := Aside0.mk c2
    clear c2 h
    cases A0 with
    | none =>
      have h0 : l0 = [] := by
        rcases Nat.eq_zero_or_pos l0.length with h | h
        · exact List.eq_nil_of_length_eq_zero h
        · obtain ⟨ad, h, _⟩ := HR0.out.2.2 h
          cases h
      subst h0
      go_enter Tryd.func87, Tryd.ntmps87
      go_wp2
      go_ret
      exact ⟨_, rfl, Kd.R_nil _ _ _ _ _, Below.refl _ _⟩
    | some ad =>
      go_enter Tryd.func87, Tryd.ntmps87
      go_wp2_with (first | ((with_reducible refine gate_dst (N := 5) rfl ?_); refine Kd.R_lit k71 _ 71 ?hg (N := 5) ?hd (xs := ([] : List (S71))) (inner := []) (ok := fun _ => True) (okp := fun _ => True) ?hr ?hp (fun _ hk => hk) trivial (Below.refl _ _) (Nat.le_refl _) (by simp) ?_; (case hd => rfl); (case hg => rfl); (case hr => first | (go_simp; done) | (go_simp; rfl)); (case hp => exact (Reps.none _ _)); intro v148 w3 ho4 hb hg_ hnew_; clear hg_ hnew_; have n0_ := Aside0.mk (Kd.R_lower ho4 (below_size (by repeat (first | (with_reducible first | exact HB.out | apply below_alloc | apply pw_below_drewN | apply below_drew1) | exact HB.out)))); have n1_ := Aside0.mk (below_step (by repeat (first | (with_reducible first | exact HB.out | apply below_alloc | apply pw_below_drewN | apply below_drew1) | exact HB.out)) hb); clear HB; have HO149 := n0_; have HB := n1_; clear n0_ n1_; clear hb ho4) | ((with_reducible refine gate_builtin (b := .append) (xs := #[.tmp 5, .tmp 6]) rfl ?_); at_builtin; refine Kd.R_append_rows k71 (w0 := w) w.heap.size rfl (.tmp 5) (.tmp 6) 36 71 (.agg #[(.int .i32 0), (.int .i64 0), (.string ⟨#[]⟩)]) 32 rfl Tryd.underlying36 info71 rfl (by decide) (by omega) v148 ([] : List S71) l0 _ _ _ (fun _ => True) (fun _ => False) rfl rfl ?aO ?aR (fun _ _ h => h) (fun _ h => h.elim) ?aF ?aB ?aS ?aL ?_; (case aR => repeat (first | exact (Kd.C_below HR0.out HB.out) | (with_reducible refine Kd.C_alloc ?_ _) | (with_reducible refine Kd.C_drewN ?_ _) | (with_reducible refine Kd.C_drew ?_))); (case aB => exact (by repeat (first | (with_reducible first | exact HB.out | apply below_alloc | apply pw_below_drewN | apply below_drew1) | exact HB.out))); (case aF => exact (fun _ _ => trivial)); (case aO => exact (by (with_reducible repeat (first | apply Kd.R_alloc | apply Kd.R_drewN | apply Kd.R_drew)); exact HO149.out)); (case aS => exact (below_size (by repeat (first | (with_reducible first | exact HB.out | apply below_alloc | apply pw_below_drewN | apply below_drew1) | exact HB.out)))); (case aL => have h_ := LM.out; simp only [List.length_nil]; omega); intro v151 w5 ho hb hg hat; rw [List.nil_append] at ho; have n0_ := Aside0.mk (hb); have n1_ := Aside0.mk (ho); clear HB; clear HO149; have HB := n0_; have HO152 := n1_; clear n0_ n1_; clear ho hb hg hat))
      go_ret
      exact ⟨_, rfl, HO152.out, HB.out⟩
  · rw [if_neg c2] at h
    exact absurd h (by simp)

end Go.Proofs.YtgdpknmffohhaaaDoor.Pl

/- Lines of a document: what a line's value says, read and written; what may be a line. -/
namespace Go.Proofs.YtgdpknmffohhaaaDoor.Pl
open Go.RowKit Go.Lib Go.Proofs.YtgdpknmffohhaaaDoorW.PrintWords Go.Proofs.YtgdpknmffohhaaaDoorW.PrintLast Go.Proofs.YtgdpknmffohhaaaDoorW.PrintMore
set_option linter.unusedVariables false
structure Ln where
  q : Int
  ls : List Int
  k : Int
  cs : List S71
/-- a row that is read -/
def Rd {α : Type} (d : Kd α) (W : World) (v : Value) (xs : List α) : Prop := ∃ A c, v = .slice A xs.length c ∧ d.C W A xs.length xs ∧ xs.length ≤ c
/-- a row that is read, of a block of its own, or a part of one -/
def Wr {α : Type} (d : Kd α) (e : Nat) (W : World) (base : Nat) (v : Value) (xs : List α) : Prop :=
  ∃ A c, v = .slice A xs.length c ∧ d.C W A xs.length xs ∧ xs.length ≤ c ∧ (0 < xs.length → ∃ g off cells, A = some ⟨g, off, none⟩ ∧ base ≤ g ∧ W.heap[g]? = some (.cells cells e (0, 0)))
section
variable {α : Type} {d : Kd α} {e : Nat} {W W1 : World} {base : Nat} {v : Value} {xs : List α}
theorem Rd.below (h : Rd d W v xs) (hb : Below W.heap.size W W1) : Rd d W1 v xs := by
  obtain ⟨A, c, e1, h1, h2⟩ := h
  exact ⟨A, c, e1, Kd.C_below h1 hb, h2⟩
theorem Rd_nil (d : Kd α) (W : World) : Rd d W (.slice none 0 0) [] := ⟨none, 0, rfl, ⟨rfl, by simp, fun h => absurd h (by simp)⟩, Nat.le_refl _⟩
theorem Rd.len (h : Rd d W v xs) : xs.length ≤ 9223372036854775807 := by
  obtain ⟨A, c, e1, h1, h2⟩ := h
  exact h1.2.1
theorem Wr.rd (h : Wr d e W base v xs) : Rd d W v xs := by
  obtain ⟨A, c, e1, h1, h2, _⟩ := h
  exact ⟨A, c, e1, h1, h2⟩
theorem Wr_nil (d : Kd α) (e : Nat) (W : World) (base : Nat) : Wr d e W base (.slice none 0 0) [] :=
  ⟨none, 0, rfl, ⟨rfl, by simp, fun h => absurd h (by simp)⟩, Nat.le_refl _, fun h => absurd h (by simp)⟩
theorem Wr.lower {base' : Nat} (h : Wr d e W base v xs) (hb : base' ≤ base) : Wr d e W base' v xs := by
  obtain ⟨A, c, e1, h1, h2, h3⟩ := h
  exact ⟨A, c, e1, h1, h2, fun h => by obtain ⟨g, off, cells, e2, h4, h5⟩ := h3 h; exact ⟨g, off, cells, e2, Nat.le_trans hb h4, h5⟩⟩
theorem Wr.below (h : Wr d e W base v xs) (hb : Below W.heap.size W W1) : Wr d e W1 base v xs := by
  obtain ⟨A, c, e1, h1, h2, h3⟩ := h
  exact ⟨A, c, e1, Kd.C_below h1 hb, h2, fun h => by
    obtain ⟨g, off, cells, e2, h4, h5⟩ := h3 h
    exact ⟨g, off, cells, e2, h4, (hb.block g (Array.getElem?_eq_some_iff.1 h5).1).trans h5⟩⟩
theorem Wr.of_R {ok : Nat → Prop} (h : Kd.R d e W base ok v xs) : Wr d e W base v xs := by
  obtain ⟨A, c, rfl⟩ := Kd.R_slice h
  obtain ⟨_, h1, h2⟩ := Kd.R_reads' h
  refine ⟨A, c, rfl, h2, h1, fun hp => ?_⟩
  obtain ⟨g, cap, e1, h3, h4, cells, h5⟩ := Kd.R_form h hp
  injection e1 with e2
  exact ⟨g, 0, cells, e2, h3, h5⟩
end
/-- a line that is read -/
def RdL (W : World) (v : Value) (x : Ln) : Prop := ∃ v1 v3, v = .agg #[.int .i64 x.q, v1, .int .i64 x.k, v3] ∧ Rd (Kd.int .i64) W v1 x.ls ∧ Rd k71 W v3 x.cs
/-- a line that is read, its rows in memory from base on -/
def WrL (W : World) (base : Nat) (v : Value) (x : Ln) : Prop := ∃ v1 v3, v = .agg #[.int .i64 x.q, v1, .int .i64 x.k, v3] ∧ Wr (Kd.int .i64) 3 W base v1 x.ls ∧ Wr k71 71 W base v3 x.cs
theorem WrL.rd {W : World} {base : Nat} {v : Value} {x : Ln} (h : WrL W base v x) : RdL W v x := by
  obtain ⟨v1, v3, e, h1, h3⟩ := h
  exact ⟨v1, v3, e, h1.rd, h3.rd⟩
theorem RdL.below {W W1 : World} {v : Value} {x : Ln} (h : RdL W v x) (hb : Below W.heap.size W W1) : RdL W1 v x := by
  obtain ⟨v1, v3, e, h1, h3⟩ := h
  exact ⟨v1, v3, e, h1.below hb, h3.below hb⟩
theorem WrL.below {W W1 : World} {base : Nat} {v : Value} {x : Ln} (h : WrL W base v x) (hb : Below W.heap.size W W1) : WrL W1 base v x := by
  obtain ⟨v1, v3, e, h1, h3⟩ := h
  exact ⟨v1, v3, e, h1.below hb, h3.below hb⟩
theorem WrL.lower {W : World} {base base' : Nat} {v : Value} {x : Ln} (h : WrL W base v x) (hb : base' ≤ base) : WrL W base' v x := by
  obtain ⟨v1, v3, e, h1, h3⟩ := h
  exact ⟨v1, v3, e, h1.lower hb, h3.lower hb⟩
def zeroLn : Ln := ⟨0, [], 0, []⟩
theorem WrL_zero (W : World) (base : Nat) : WrL W base (.agg #[.int .i64 0, .slice none 0 0, .int .i64 0, .slice none 0 0]) zeroLn := ⟨_, _, rfl, Wr_nil _ _ _ _, Wr_nil _ _ _ _⟩
/-- how long a line may be here -/
def Sz (x : Ln) : Prop := x.ls.length ≤ 100000 ∧ x.cs.length ≤ 100000 ∧ ∀ c ∈ x.cs, c.f2.size ≤ 1000000
def kindBad_ (k : Int) : Bool := k != 0 && k != 1
/-- may a line be -/
def mayL (x : Ln) : Bool := decide (0 ≤ x.q ∧ x.q ≤ 6 ∧ x.ls.length ≤ 6 ∧ 0 ≤ x.k ∧ x.k ≤ 3 ∧ (x.ls.length = 0 ∨ x.k = 0)) && (!(x.ls.any kindBad_) && !(x.cs.any bad_))
theorem Sz.may {x : Ln} (h : Sz x) : cells_May.f x.cs = some (!(x.cs.any bad_)) := by
  unfold cells_May.f
  rw [if_pos (List.all_eq_true.2 fun c hc => decide_eq_true (by have := h.2.2 c hc; omega))]
theorem Gl_.alloc {w : World} (h : Gl_ w) (o : Obj) : Gl_ (w.alloc o) := h.below (below_alloc (Below.refl _ _) o)
theorem Gl_.drewN {w : World} (h : Gl_ w) (n : Nat) : Gl_ (w.drewN n) := h.below (pw_below_drewN (Below.refl _ _) n)
theorem R_put_ {α : Type} {d : Kd α} {e : Nat} {W : World} {base : Nat} {v : Value} {xs : List α} {g t : Nat} {cells : Array Value} (h : Kd.R d e W base (fun _ => True) v xs) (hb : W.heap[g]? = some (.cells cells t (0, 0))) (ht : ∀ q, q ∈ e :: d.E → q ≠ t) (i : Nat) (u : Value) :
    Kd.R d e (W.setCell ⟨g, i, none⟩ u) base (fun _ => True) v xs := Kd.R_mono (Kd.R_far (p := ⟨g, i, none⟩) (Kd.R_types h hb ht) (fun _ hk => hk.2) u) (fun _ _ => trivial)
theorem blk_off_ {W : World} {k g i : Nat} {u : Value} {o : Obj} (h : W.heap[k]? = some o) (hne : k ≠ g) : (W.setCell ⟨g, i, none⟩ u).heap[k]? = some o := (Below.heap_setCell W ⟨g, i, none⟩ u k hne).trans h
/-- a line's four cells, written -/
def put4_ (W : World) (g : Nat) (a b c d : Value) : World := (((W.setCell ⟨g, 0, none⟩ a).setCell ⟨g, 1, none⟩ b).setCell ⟨g, 2, none⟩ c).setCell ⟨g, 3, none⟩ d
section
variable {W : World} {g : Nat} {a b c d z0 z1 z2 z3 : Value} {t : Nat}
theorem put4_blk (h : W.heap[g]? = some (.cells #[z0, z1, z2, z3] t (0, 0))) : (put4_ W g a b c d).heap[g]? = some (.cells #[a, b, c, d] t (0, 0)) :=
  blk_put (blk_put (blk_put (blk_put h 0 a rfl) 1 b rfl) 2 c rfl) 3 d rfl
theorem put4_off {k : Nat} {o : Obj} (h : W.heap[k]? = some o) (hne : k ≠ g) : (put4_ W g a b c d).heap[k]? = some o := blk_off_ (blk_off_ (blk_off_ (blk_off_ h hne) hne) hne) hne
theorem put4_R {α : Type} {kd : Kd α} {e base : Nat} {v : Value} {xs : List α} (h : Kd.R kd e W base (fun _ => True) v xs) (hb : W.heap[g]? = some (.cells #[z0, z1, z2, z3] t (0, 0))) (ht : ∀ q, q ∈ e :: kd.E → q ≠ t) : Kd.R kd e (put4_ W g a b c d) base (fun _ => True) v xs :=
  R_put_ (R_put_ (R_put_ (R_put_ h hb ht 0 a) (blk_put hb 0 a rfl) ht 1 b) (blk_put (blk_put hb 0 a rfl) 1 b rfl) ht 2 c) (blk_put (blk_put (blk_put hb 0 a rfl) 1 b rfl) 2 c rfl) ht 3 d
theorem put4_below {w : World} (h : Below w.heap.size w W) (hg : w.heap.size ≤ g) : Below w.heap.size w (put4_ W g a b c d) := below_set (below_set (below_set (below_set h hg) hg) hg) hg
end
theorem two_boxes_ (w : World) (O1 O2 : Obj) : ((w.alloc O1).alloc O2).heap[w.heap.size]? = some O1 ∧ ((w.alloc O1).alloc O2).heap[w.heap.size + 1]? = some O2 ∧ Below w.heap.size w ((w.alloc O1).alloc O2) := by
  refine ⟨blk_alloc (heap_alloc_new w O1) O2, ?_, below_alloc (below_alloc (Below.refl _ _) O1) O2⟩
  have h := heap_alloc_new (w.alloc O1) O2
  rwa [World.size_alloc] at h
end Go.Proofs.YtgdpknmffohhaaaDoor.Pl

/- lines.Own: a line in memory of its own. -/
namespace Go.Proofs.YtgdpknmffohhaaaDoor.Pl
open Go.RowKit Go.Lib Go.Proofs.YtgdpknmffohhaaaDoorW.PrintWords Go.Proofs.YtgdpknmffohhaaaDoorW.PrintLast Go.Proofs.YtgdpknmffohhaaaDoorW.PrintMore
set_option linter.unusedVariables false
set_option maxRecDepth 100000 in
set_option maxHeartbeats 4000000 in
theorem own_calls_ (x : Ln) (v : Value) (w : World) (hx : RdL w v x) (hz : Sz x) :
    Calls Tryd.prog 39 #[v] w fun e w' => ∃ v1 v3, e = .returned (.agg #[.int .i64 x.q, v1, .int .i64 x.k, v3]) ∧ Kd.R (Kd.int .i64) 3 w' w.heap.size (fun _ => True) v1 x.ls ∧ Kd.R k71 71 w' w.heap.size (fun _ => True) v3 x.cs ∧ Below w.heap.size w w' := by
  have hu38 := Tryd.underlying38
  obtain ⟨_, _, rfl, ⟨A1, c1, rfl, h1, hc1⟩, ⟨A3, c3, rfl, h3, hc3⟩⟩ := hx
  have HF1 := Aside0.mk (show slices_Clone_int.f x.ls = some x.ls by unfold slices_Clone_int.f; rw [if_pos (by have := hz.1; omega)])
  have HF3 := Aside0.mk (show slices_Clone_Cell.f x.cs = some x.cs by unfold slices_Clone_Cell.f; rw [if_pos (by have := hz.2.1; omega)])
  have HC1 := Aside0.mk hc1
  have HC3 := Aside0.mk hc3
  have HK1 := Aside0.mk h1
  have HK3 := Aside0.mk h3
  clear h1 h3 hc1 hc3 hz
  go_enter Tryd.func39, Tryd.ntmps39
  go_wp2
  obtain ⟨F1, F2, F3⟩ := two_boxes_ w (.cells #[.int .i64 x.q, .slice A1 x.ls.length c1, .int .i64 x.k, .slice A3 x.cs.length c3] 38) (.cells #[.int .i64 0, .slice none 0 0, .int .i64 0, .slice none 0 0] 38)
  generalize (w.alloc (.cells #[.int .i64 x.q, .slice A1 x.ls.length c1, .int .i64 x.k, .slice A3 x.cs.length c3] 38)).alloc (.cells #[.int .i64 0, .slice none 0 0, .int .i64 0, .slice none 0 0] 38) = W0 at F1 F2 F3 ⊢
  obtain ⟨b, hb⟩ : ∃ b, w.heap.size = b := ⟨_, rfl⟩
  have g1 : W0.cell? ⟨w.heap.size, 1, none⟩ = some (.slice A1 x.ls.length c1) := (blk_cell F1 1).trans rfl
  have g3 : W0.cell? ⟨w.heap.size, 3, none⟩ = some (.slice A3 x.cs.length c3) := (blk_cell F1 3).trans rfl
  have H1 := Aside0.mk F1
  have H2 := Aside0.mk F2
  have H3 := Aside0.mk F3
  clear F1 F2 F3 hb
  go_region_with (first
    | (go_at_call 86; go_loud (refine (slices_Clone_int.calls _ _ _ _ _ (Kd.C_below HK1.out (below_drew1 H3.out)) HC1.out HF1.out).mono ?_; rintro e w1 ⟨u1, rfl, ho, hb⟩; obtain ⟨B1, d1, rfl⟩ := Kd.R_slice ho; have HO1 := Aside0.mk ho; have HB1 := Aside0.mk (below_step (below_drew1 (Below.refl _ W0)) hb); have g3' : w1.cell? ⟨w.heap.size, 3, none⟩ = some (.slice A3 x.cs.length c3) := (hb.cell (World.block_lt_of_cell? W0.drew _ g3)).trans g3; clear ho hb))
    | (go_at_call 87; refine (slices_Clone_Cell.calls _ _ _ _ _ (Kd.C_below HK3.out (below_step H3.out HB1.out)) HC3.out HF3.out).mono ?_; rintro e w2 ⟨u3, rfl, ho, hb⟩; obtain ⟨B3, d3, rfl⟩ := Kd.R_slice ho; have HO3 := Aside0.mk ho; have HB2 := Aside0.mk hb; have fb := blk_below (blk_below H1.out HB1.out) hb; have f1 := blk_frozen fb 1; have f3 := blk_frozen fb 3; have k1 : w2.cell? ⟨w.heap.size, 1, none⟩ = some (.slice A1 x.ls.length c1) := (blk_cell fb 1).trans rfl; have k3 : w2.cell? ⟨w.heap.size, 3, none⟩ = some (.slice A3 x.cs.length c3) := (blk_cell fb 3).trans rfl; have FB := Aside0.mk fb; clear ho hb fb))
  all_goals
    have P1 : ((w2.setCell ⟨w.heap.size, 1, none⟩ (.slice B1 x.ls.length d1)).setCell ⟨w.heap.size, 3, none⟩ (.slice B3 x.cs.length d3)).heap[w.heap.size]? = some (.cells #[.int .i64 x.q, .slice B1 x.ls.length d1, .int .i64 x.k, .slice B3 x.cs.length d3] 38 (0, 0)) := blk_put (blk_put FB.out 1 _ rfl) 3 _ rfl
    have P2 : ((w2.setCell ⟨w.heap.size, 1, none⟩ (.slice B1 x.ls.length d1)).setCell ⟨w.heap.size, 3, none⟩ (.slice B3 x.cs.length d3)).heap[w.heap.size + 1]? = some (.cells #[.int .i64 0, .slice none 0 0, .int .i64 0, .slice none 0 0] 38 (0, 0)) := blk_off_ (blk_off_ (blk_below (blk_below H2.out HB1.out) HB2.out) (by omega)) (by omega)
    have PO1 := R_put_ (R_put_ (Kd.R_lower (Kd.R_below HO1.out HB2.out) (below_size (below_drew1 H3.out))) FB.out (by decide) 1 (.slice B1 x.ls.length d1)) (blk_put FB.out 1 _ rfl) (by decide) 3 (.slice B3 x.cs.length d3)
    have PO3 := R_put_ (R_put_ (Kd.R_lower HO3.out (below_size (below_step H3.out HB1.out))) FB.out (by decide) 1 (.slice B1 x.ls.length d1)) (blk_put FB.out 1 _ rfl) (by decide) 3 (.slice B3 x.cs.length d3)
    have PB := below_set (j := 3) (v := .slice B3 x.cs.length d3) (below_set (j := 1) (v := .slice B1 x.ls.length d1) (below_step (below_step H3.out HB1.out) HB2.out) (Nat.le_refl _)) (Nat.le_refl _)
    generalize (w2.setCell ⟨w.heap.size, 1, none⟩ (.slice B1 x.ls.length d1)).setCell ⟨w.heap.size, 3, none⟩ (.slice B3 x.cs.length d3) = W3 at P1 P2 PO1 PO3 PB ⊢
    have a0 : W3.cell? ⟨w.heap.size, 0, none⟩ = some (.int .i64 x.q) := (blk_cell P1 0).trans rfl
    have a1 : W3.cell? ⟨w.heap.size, 1, none⟩ = some (.slice B1 x.ls.length d1) := (blk_cell P1 1).trans rfl
    have a2 : W3.cell? ⟨w.heap.size, 2, none⟩ = some (.int .i64 x.k) := (blk_cell P1 2).trans rfl
    have a3 : W3.cell? ⟨w.heap.size, 3, none⟩ = some (.slice B3 x.cs.length d3) := (blk_cell P1 3).trans rfl
    have b0 : W3.cell? ⟨w.heap.size + 1, 0, none⟩ = some (.int .i64 0) := (blk_cell P2 0).trans rfl
    have b1 : W3.cell? ⟨w.heap.size + 1, 1, none⟩ = some (.slice none 0 0) := (blk_cell P2 1).trans rfl
    have b2 : W3.cell? ⟨w.heap.size + 1, 2, none⟩ = some (.int .i64 0) := (blk_cell P2 2).trans rfl
    have b3 : W3.cell? ⟨w.heap.size + 1, 3, none⟩ = some (.slice none 0 0) := (blk_cell P2 3).trans rfl
    have e0 := blk_frozen P2 0
    have e1 := blk_frozen P2 1
    have e2 := blk_frozen P2 2
    have e3 := blk_frozen P2 3
    have Q2 := Aside0.mk P2
    have QO1 := Aside0.mk PO1
    have QO3 := Aside0.mk PO3
    have QB := Aside0.mk PB
    clear P1 P2 PO1 PO3 PB f1 f3 k1 k3 g1 g3 HO1 HO3 FB HB1 HB2
    go_wp2
    refine bodyPost_ret (results_cell_row rfl _ _ (w.heap.size + 1) 38 #[.int .i64 x.q, .slice B1 x.ls.length d1, .int .i64 x.k, .slice B3 x.cs.length d3] (0, 0) _ rfl (put4_blk Q2.out) Tryd.underlying38 rfl (by kernel_rfl)) rfl ?_
    exact ⟨_, _, rfl, put4_R QO1.out Q2.out (by decide), put4_R QO3.out Q2.out (by decide), put4_below QB.out (Nat.le_succ _)⟩
end Go.Proofs.YtgdpknmffohhaaaDoor.Pl

/- slices.ContainsFunc over whole numbers; lines.May. -/
namespace Go.Proofs.YtgdpknmffohhaaaDoor.Pl
open Go.RowKit Go.Lib Go.Proofs.YtgdpknmffohhaaaDoorW.PrintWords Go.Proofs.YtgdpknmffohhaaaDoorW.PrintLast Go.Proofs.YtgdpknmffohhaaaDoorW.PrintMore
set_option linter.unusedVariables false
def argI_ (x : Int) : Value := .int .i64 x
theorem atI_ {w : World} {A : Option Addr} {n : Nat} {xs : List Int} (h : Kd.C (Kd.int .i64) w A n xs) (i : Int) (h0 : 0 ≤ i) (h1 : i < n) : ∃ ad, A = some ad ∧ w.cell? (ad.add i.toNat) = some (.int .i64 (rd xs i)) := by
  obtain ⟨ad, c, e, _, hK, hc0⟩ := Kd.C_get h 0 i h0 h1
  have hc : ∀ j u, c[j]? = some u → w.cell? (ad.add (i.toNat * 1 + j)) = some u := hc0
  obtain rfl : c = [.int .i64 (rd xs i)] := hK
  have := hc 0 _ rfl
  rw [Nat.mul_one, Nat.add_zero] at this
  exact ⟨ad, e, this⟩
theorem rdI_at_ {xs : List Int} {k : Nat} (hk : k < xs.length) : xs[k]? = some (rd xs (k : Int)) := by
  unfold rd
  rw [Int.toNat_natCast, List.getD_eq_getElem?_getD, List.getElem?_eq_getElem hk]
  rfl
set_option maxHeartbeats 4000000 in
theorem indexI_ (A0 : Option Addr) (c0 : Nat) (l0 : List Int) (g : Nat) (lb : Array Value) (p : Int → Bool) (w : World) (hr0 : Kd.C (Kd.int .i64) w A0 l0.length l0) (hc0 : l0.length ≤ c0) (eg : ∀ args w, (callFunc g args).run Tryd.prog w = .ok (.enter g args) w)
    (hf : Tells_ argI_ w g lb p l0) : Calls Tryd.prog 123 #[.slice A0 l0.length c0, .func (.func g) #[] lb] w fun e w' => (∃ i : Int, e = .returned (.int .i64 i) ∧ decide (0 ≤ i) = l0.any p) ∧ Below w.heap.size w w' := by
  have HR0 := Aside0.mk hr0
  have HF := Aside0.mk hf
  have HB := Aside0.mk (Below.refl w.heap.size w)
  have hlen : l0.length ≤ 9223372036854775807 := hr0.2.1
  clear hr0 hf
  go_enter Tryd.func123, Tryd.ntmps123
  go_wp2
  go_loopw [8] (fun v wr => ∃ k : Nat, v = .int .i64 (k : Int) ∧ k ≤ l0.length ∧ Aside0 (∀ j, j < k → p (rd l0 (j : Int)) = false) ∧ Aside0 (Below w.heap.size w wr)) (fun v _ => l0.length - (intOf v).toNat)
  case atStart => exact ⟨0, rfl, Nat.zero_le _, ⟨fun j hj => absurd hj (Nat.not_lt_zero _)⟩, HB⟩
  case round =>
    clear HB
    obtain ⟨k, rfl, hk, HN, HB⟩ := hrel
    by_cases hlt : k < l0.length
    · obtain ⟨ad, e, h0⟩ := atI_ HR0.out (k : Int) (by omega) (by omega)
      cases e
      replace h0 := (HB.out.cell (World.block_lt_of_cell? w _ h0)).trans h0
      rw [Int.toNat_natCast] at h0
      have hm : rd l0 (k : Int) ∈ l0 := List.mem_of_getElem? (rdI_at_ hlt)
      generalize hx : rd l0 (k : Int) = x at h0 hm
      have HF1 := Aside0.mk (HF.out x hm)
      clear hm
      cases hp : p x with
      | true =>
        have HY := Aside0.mk (show l0.any p = true from List.any_eq_true.2 ⟨x, by rw [← hx]; exact List.mem_of_getElem? (rdI_at_ hlt), hp⟩)
        go_wp2_with (go_at_fn g; refine (HF1.out _ HB.out).mono ?_; rw [hp]; rintro e w' ⟨rfl, hb⟩; have HB' := Aside0.mk hb; clear hb)
        go_ret
        exact ⟨⟨(k : Int), rfl, by rw [HY.out, decide_eq_true (by omega)]⟩, HB.out.trans (HB'.out.mono HB.out.size)⟩
      | false =>
        go_wp2_with (go_at_fn g; refine (HF1.out _ HB.out).mono ?_; rw [hp]; rintro e w' ⟨rfl, hb⟩; have HB' := Aside0.mk hb; clear hb)
        go_roundw
        case rel => exact ⟨k + 1, by go_num, by omega, ⟨fun j hj => by
          by_cases h : j = k
          · rw [h, hx]; exact hp
          · exact HN.out j (by omega)⟩, ⟨HB.out.trans (HB'.out.mono HB.out.size)⟩⟩
        case measure => simp [intOf]; omega
    · have HY := Aside0.mk (show l0.any p = false by
        rw [List.any_eq_false]
        intro y hy
        obtain ⟨j, hj, rfl⟩ := List.getElem_of_mem hy
        have := HN.out j (by omega)
        have e2 := rdI_at_ (xs := l0) hj
        rw [List.getElem?_eq_getElem hj] at e2
        have e3 := Option.some.inj e2
        rw [← e3] at this
        simpa using this)
      go_wp2
      go_ret
      exact ⟨⟨-1, rfl, by rw [HY.out]; rfl⟩, HB.out⟩
set_option maxHeartbeats 4000000 in
theorem containsI_ (A0 : Option Addr) (c0 : Nat) (l0 : List Int) (g : Nat) (lb : Array Value) (p : Int → Bool) (w : World) (hr0 : Kd.C (Kd.int .i64) w A0 l0.length l0) (hc0 : l0.length ≤ c0) (eg : ∀ args w, (callFunc g args).run Tryd.prog w = .ok (.enter g args) w)
    (hf : Tells_ argI_ w g lb p l0) : Calls Tryd.prog 83 #[.slice A0 l0.length c0, .func (.func g) #[] lb] w fun e w' => e = .returned (.bool (l0.any p)) ∧ Below w.heap.size w w' := by
  have HI := Aside0.mk (indexI_ A0 c0 l0 g lb p w hr0 hc0 eg hf)
  clear hr0 hf
  go_enter Tryd.func83, Tryd.ntmps83
  go_wp2_with (go_at_call 123; refine HI.out.mono ?_; rintro e w' ⟨⟨i, rfl, hi⟩, hb⟩; have HB := Aside0.mk hb; have HD := Aside0.mk hi; clear hb hi)
  go_ret
  exact ⟨by rw [HD.out]; rfl, HB.out⟩
set_option maxHeartbeats 4000000 in
theorem kindBad_calls_ (k : Int) (w : World) : Calls Tryd.prog 84 #[.int .i64 k] w fun e w' => e = .returned (.bool (kindBad_ k)) ∧ Below w.heap.size w w' := by
  by_cases h : k = 0
  · have h1 : (k != 0) = false := bne_eq_false_iff_eq.mpr h
    go_enter Tryd.func84, Tryd.ntmps84
    go_wp2
    go_ret
    exact ⟨by unfold kindBad_; rw [h1]; rfl, Below.refl _ _⟩
  · have h1 : (k != 0) = true := bne_iff_ne.mpr h
    go_enter Tryd.func84, Tryd.ntmps84
    go_wp2
    go_ret
    exact ⟨by unfold kindBad_; rw [h1]; rfl, Below.refl _ _⟩
theorem mayL_false {x : Ln} (h : ¬ (0 ≤ x.q ∧ x.q ≤ 6 ∧ x.ls.length ≤ 6 ∧ 0 ≤ x.k ∧ x.k ≤ 3 ∧ (x.ls.length = 0 ∨ x.k = 0))) : mayL x = false := by
  unfold mayL
  rw [decide_eq_false h]
  rfl
set_option maxRecDepth 100000 in
set_option maxHeartbeats 4000000 in
theorem may_calls_ (x : Ln) (v : Value) (w : World) (hx : RdL w v x) (hz : Sz x) (hG : Gl_ w) :
    Calls Tryd.prog 37 #[v] w fun e w' => e = .returned (.bool (mayL x)) ∧ Below w.heap.size w w' := by
  have hu38 := Tryd.underlying38
  obtain ⟨_, _, rfl, ⟨A1, c1, rfl, h1, hc1⟩, ⟨A3, c3, rfl, h3, hc3⟩⟩ := hx
  have HS := Aside0.mk hz.may
  have HC1 := Aside0.mk hc1
  have HC3 := Aside0.mk hc3
  have HK1 := Aside0.mk h1
  have HK3 := Aside0.mk h3
  have HG := Aside0.mk hG
  clear h1 h3 hc1 hc3 hz hG
  by_cases c1_ : x.q < 0
  · have d1 : decide (x.q < 0) = true := decide_eq_true c1_
    have HM := Aside0.mk (mayL_false (x := x) (by omega))
    clear c1_
    go_enter Tryd.func37, Tryd.ntmps37
    go_wp2
    go_ret
    exact ⟨by rw [HM.out]; rfl, below_alloc (Below.refl _ _) _⟩
  have d1 : decide (x.q < 0) = false := decide_eq_false c1_
  by_cases c2_ : 6 < x.q
  · have d2 : decide (6 < x.q) = true := decide_eq_true c2_
    have HM := Aside0.mk (mayL_false (x := x) (by omega))
    clear c1_ c2_
    go_enter Tryd.func37, Tryd.ntmps37
    go_wp2
    go_ret
    exact ⟨by rw [HM.out]; rfl, below_alloc (Below.refl _ _) _⟩
  have d2 : decide (6 < x.q) = false := decide_eq_false c2_
  by_cases c3_ : 6 < (x.ls.length : Int)
  · have d3 : decide (6 < (x.ls.length : Int)) = true := decide_eq_true c3_
    have HM := Aside0.mk (mayL_false (x := x) (by omega))
    clear c1_ c2_ c3_
    go_enter Tryd.func37, Tryd.ntmps37
    go_wp2
    go_ret
    exact ⟨by rw [HM.out]; rfl, below_alloc (Below.refl _ _) _⟩
  have d3 : decide (6 < (x.ls.length : Int)) = false := decide_eq_false c3_
  by_cases c4_ : x.k < 0
  · have d4 : decide (x.k < 0) = true := decide_eq_true c4_
    have HM := Aside0.mk (mayL_false (x := x) (by omega))
    clear c1_ c2_ c3_ c4_
    go_enter Tryd.func37, Tryd.ntmps37
    go_wp2
    go_ret
    exact ⟨by rw [HM.out]; rfl, below_alloc (Below.refl _ _) _⟩
  have d4 : decide (x.k < 0) = false := decide_eq_false c4_
  by_cases c5_ : 3 < x.k
  · have d5 : decide (3 < x.k) = true := decide_eq_true c5_
    have HM := Aside0.mk (mayL_false (x := x) (by omega))
    clear c1_ c2_ c3_ c4_ c5_
    go_enter Tryd.func37, Tryd.ntmps37
    go_wp2
    go_ret
    exact ⟨by rw [HM.out]; rfl, below_alloc (Below.refl _ _) _⟩
  have d5 : decide (3 < x.k) = false := decide_eq_false c5_
  have HR := Aside0.mk (fun (h : x.ls.length = 0 ∨ x.k = 0) => (show mayL x = (!(x.ls.any kindBad_) && !(x.cs.any bad_)) by
    unfold mayL
    rw [decide_eq_true (by omega)]
    rfl))
  have HN := Aside0.mk (fun (h : ¬ (x.ls.length = 0 ∨ x.k = 0)) => mayL_false (x := x) (by omega))
  clear c1_ c2_ c3_ c4_ c5_
  have HK := Aside0.mk (fun W (hW : Below w.heap.size w W) => containsI_ A1 c1 x.ls 84 #[] kindBad_ W (Kd.C_below HK1.out hW) HC1.out (enters_of Tryd.func84 (by kernel_rfl) rfl) (fun k _ W1 _ => kindBad_calls_ k W1))
  have HCM := Aside0.mk (fun W (hW : Below w.heap.size w W) => cells_May.calls A3 c3 x.cs _ W (Kd.C_below HK3.out hW) HC3.out HS.out (HG.out.below hW))
  clear HK1 HK3 HG HS
  have HEND : ∀ (hl : x.ls.length = 0 ∨ x.k = 0), Aside0 (mayL x = (!(x.ls.any kindBad_) && !(x.cs.any bad_))) := fun hl => ⟨HR.out hl⟩
  by_cases c6 : 0 < (x.ls.length : Int)
  · have d6 : decide (0 < x.ls.length) = true := decide_eq_true (by omega)
    by_cases c7 : x.k = 0
    · have d7 : (x.k != 0) = false := bne_eq_false_iff_eq.mpr c7
      have HX := HEND (.inr c7)
      clear c6 c7 HEND HR HN
      cases hb1 : x.ls.any kindBad_ with
      | true =>
        rw [hb1] at HK HX
        go_enter Tryd.func37, Tryd.ntmps37
        go_wp2_with (go_at_call 83; refine (HK.out _ (below_alloc (Below.refl _ _) _)).mono ?_; rintro e w1 ⟨rfl, hb⟩; have HB1 := Aside0.mk hb; clear hb)
        go_ret
        exact ⟨by rw [HX.out]; rfl, below_step (below_alloc (Below.refl _ _) _) HB1.out⟩
      | false =>
        rw [hb1] at HK HX
        have F1 := heap_alloc_new w (.cells #[.int .i64 x.q, .slice A1 x.ls.length c1, .int .i64 x.k, .slice A3 x.cs.length c3] 38)
        go_enter Tryd.func37, Tryd.ntmps37
        go_wp2_with (first | (go_at_call 83; refine (HK.out _ (below_alloc (Below.refl _ _) _)).mono ?_; rintro e w1 ⟨rfl, hb⟩; have g3 : w1.cell? ⟨w.heap.size, 3, none⟩ = some (.slice A3 x.cs.length c3) := (blk_cell (blk_below F1 hb) 3).trans rfl; have HB1 := Aside0.mk hb; clear hb) | (go_at_call 66; refine (HCM.out _ (below_step (below_alloc (Below.refl _ _) _) HB1.out)).mono ?_; rintro e w2 ⟨rfl, hb⟩; have HB2 := Aside0.mk hb; clear hb))
        go_ret
        exact ⟨by rw [HX.out]; rfl, below_step (below_step (below_alloc (Below.refl _ _) _) HB1.out) HB2.out⟩
    · have d7 : (x.k != 0) = true := bne_iff_ne.mpr c7
      have HM := Aside0.mk (HN.out (by omega))
      clear c6 c7 HEND HR HN
      go_enter Tryd.func37, Tryd.ntmps37
      go_wp2
      go_ret
      exact ⟨by rw [HM.out]; rfl, below_alloc (Below.refl _ _) _⟩
  · have d6 : decide (0 < x.ls.length) = false := decide_eq_false (by omega)
    have HX := HEND (.inl (by omega))
    clear c6 HEND HR HN
    cases hb1 : x.ls.any kindBad_ with
    | true =>
      rw [hb1] at HK HX
      go_enter Tryd.func37, Tryd.ntmps37
      go_wp2_with (go_at_call 83; refine (HK.out _ (below_alloc (Below.refl _ _) _)).mono ?_; rintro e w1 ⟨rfl, hb⟩; have HB1 := Aside0.mk hb; clear hb)
      go_ret
      exact ⟨by rw [HX.out]; rfl, below_step (below_alloc (Below.refl _ _) _) HB1.out⟩
    | false =>
      rw [hb1] at HK HX
      have F1 := heap_alloc_new w (.cells #[.int .i64 x.q, .slice A1 x.ls.length c1, .int .i64 x.k, .slice A3 x.cs.length c3] 38)
      go_enter Tryd.func37, Tryd.ntmps37
      go_wp2_with (first | (go_at_call 83; refine (HK.out _ (below_alloc (Below.refl _ _) _)).mono ?_; rintro e w1 ⟨rfl, hb⟩; have g3 : w1.cell? ⟨w.heap.size, 3, none⟩ = some (.slice A3 x.cs.length c3) := (blk_cell (blk_below F1 hb) 3).trans rfl; have HB1 := Aside0.mk hb; clear hb) | (go_at_call 66; refine (HCM.out _ (below_step (below_alloc (Below.refl _ _) _) HB1.out)).mono ?_; rintro e w2 ⟨rfl, hb⟩; have HB2 := Aside0.mk hb; clear hb))
      go_ret
      exact ⟨by rw [HX.out]; rfl, below_step (below_step (below_alloc (Below.refl _ _) _) HB1.out) HB2.out⟩
end Go.Proofs.YtgdpknmffohhaaaDoor.Pl

/- What turns a line: its last list, the closures, and lines.turned. -/
namespace Go.Proofs.YtgdpknmffohhaaaDoor.Pl
open Go.RowKit Go.Lib Go.Proofs.YtgdpknmffohhaaaDoorW.PrintWords Go.Proofs.YtgdpknmffohhaaaDoorW.PrintLast Go.Proofs.YtgdpknmffohhaaaDoorW.PrintMore
set_option linter.unusedVariables false
section
variable {P : Program}
theorem cut_hm_ (t e : TypeId) (kh km : IntKind) {i : TypeInfo} (ht : P.underlying t = some (.slice e)) (hi : P.info? e = some i) (A : Option Addr) (n c : Nat) (j : Int) (h0 : 0 ≤ j) (hm : j ≤ n) (hc : n ≤ c) :
    ∀ W : World, (Instr.slice t (.slice A n c) none (some (.int kh j)) (some (.int km j))).run P W = .ok (.slice A j.toNat j.toNat) W := by
  intro W
  have hel : P.elem t = e := by simp [Program.elem, ht]
  have hu : P.underlying t = some (.slice (P.elem t)) := by rw [hel]; exact ht
  have ha : (A.map fun x => x.add 0) = A := by cases A <;> simp [Addr.add]
  rw [run_slice_hm W t A n c hu kh km j j h0 (Int.le_refl _) (by omega), hel]
  simp [sizeOf, typeInfo, hi, sliced, Result.andThen, ha]
end
def lastF (ls : List Int) : Int := if ls.length = 0 then -1 else rd ls ((ls.length : Int) - 1)
theorem lastF_snoc (l : List Int) (a : Int) : lastF (l ++ [a]) = a := by
  unfold lastF rd
  rw [if_neg (by simp), List.length_append, List.length_singleton, show (((l.length + 1 : Nat) : Int) - 1).toNat = l.length by omega]
  simp
theorem infoI_ : ∃ i, Tryd.prog.info? 3 = some i ∧ i.size = 1 := by
  obtain ⟨i, hi, h⟩ := Option.map_eq_some_iff.1 info3
  simp only [Prod.mk.injEq] at h
  exact ⟨i, hi, h.2.1⟩
set_option maxRecDepth 100000 in
set_option maxHeartbeats 4000000 in
theorem last_calls_ (ls : List Int) (b : Nat) (v1 : Value) (w : World) (h1 : w.cell? ⟨b, 1, none⟩ = some v1) (hr : Rd (Kd.int .i64) w v1 ls) :
    Calls Tryd.prog 90 #[.pointer (some ⟨b, 0, none⟩)] w fun e w' => e = .returned (.int .i64 (lastF ls)) ∧ Drawn0 w w' := by
  have hu38 := Tryd.underlying38
  have hl := hr.len
  obtain ⟨A, c, rfl, hC, hc⟩ := hr
  by_cases h0 : ls.length = 0
  · have e0 : (ls.length == 0) = true := beq_iff_eq.mpr h0
    have E := Aside0.mk (show lastF ls = -1 by unfold lastF; rw [if_pos h0])
    clear hC
    go_enter Tryd.func90, Tryd.ntmps90
    go_wp2
    go_ret
    exact ⟨by rw [E.out]; rfl, ⟨⟨0, rfl⟩⟩⟩
  · obtain ⟨n, hn⟩ : ∃ n, ls.length = n + 1 := ⟨ls.length - 1, by omega⟩
    have E := Aside0.mk (show lastF ls = rd ls (n : Int) by unfold lastF; rw [if_neg h0, hn]; congr 1; omega)
    obtain ⟨ad, e1, g⟩ := atI_ hC (n : Int) (by omega) (by omega)
    rw [Int.toNat_natCast] at g
    cases e1
    rw [hn] at hl h1 hc
    clear hC h0
    have hw : IntKind.i64.wrap (((n + 1 : Nat) : Int) - 1) = (n : Int) := by rw [i64_w]; unfold wrap64; omega
    go_enter Tryd.func90, Tryd.ntmps90
    go_wp2
    go_quiet (fail)
    go_wp2
    go_ret
    exact ⟨by rw [E.out]; rfl, ⟨⟨nq, rfl⟩⟩⟩
/-- a line's box -/
def Box_ (W : World) (b : Nat) (q : Int) (v1 : Value) (k : Int) (v3 : Value) : Prop := W.heap[b]? = some (.cells #[.int .i64 q, v1, .int .i64 k, v3] 38 (0, 0))
theorem Box_.c0 {W : World} {b : Nat} {q k : Int} {v1 v3 : Value} (h : Box_ W b q v1 k v3) : W.cell? ⟨b, 0, none⟩ = some (.int .i64 q) := (blk_cell h 0).trans rfl
theorem Box_.c1 {W : World} {b : Nat} {q k : Int} {v1 v3 : Value} (h : Box_ W b q v1 k v3) : W.cell? ⟨b, 1, none⟩ = some v1 := (blk_cell h 1).trans rfl
theorem Box_.c2 {W : World} {b : Nat} {q k : Int} {v1 v3 : Value} (h : Box_ W b q v1 k v3) : W.cell? ⟨b, 2, none⟩ = some (.int .i64 k) := (blk_cell h 2).trans rfl
theorem Box_.c3 {W : World} {b : Nat} {q k : Int} {v1 v3 : Value} (h : Box_ W b q v1 k v3) : W.cell? ⟨b, 3, none⟩ = some v3 := (blk_cell h 3).trans rfl
/-- what a closure that turns a line has to do -/
def After_ (w0 : World) (b : Nat) (W : World) (v3 : Value) (r : Bool) (y : Ln) (e : Ending) (W' : World) : Prop :=
  ∃ u1, e = .returned (.bool r) ∧ Box_ W' b y.q u1 y.k v3 ∧ Wr (Kd.int .i64) 3 W' w0.heap.size u1 y.ls ∧ Wr k71 71 W' w0.heap.size v3 y.cs ∧ Below w0.heap.size w0 W' ∧
    ∀ o cells, o ≠ b → W.heap[o]? = some (.cells cells 38 (0, 0)) → W'.heap[o]? = some (.cells cells 38 (0, 0))
def Turns_ (w0 : World) (g : Nat) (lb : Array Value) (F : Ln → Bool × Ln) : Prop :=
  ∀ (x : Ln) (W : World) (b : Nat) (v1 v3 : Value), mayL x = true → Sz x → Box_ W b x.q v1 x.k v3 → Kd.R (Kd.int .i64) 3 W w0.heap.size (fun _ => True) v1 x.ls → Kd.R k71 71 W w0.heap.size (fun _ => True) v3 x.cs →
    w0.heap.size ≤ b → Below w0.heap.size w0 W → Calls Tryd.prog g (#[.pointer (some ⟨b, 0, none⟩)] ++ lb) W fun e W' => After_ w0 b W v3 (F x).1 (F x).2 e W'
def dropF (ls : List Int) : List Int := ls.take (ls.length - 1)
theorem Wr_shut_ {W : World} {base : Nat} {A : Option Addr} {c n : Nat} {ls : List Int} (h : Kd.R (Kd.int .i64) 3 W base (fun _ => True) (.slice A ls.length c) ls) (hn : n + 1 = ls.length) : Wr (Kd.int .i64) 3 W base (.slice A n n) (dropF ls) := by
  obtain ⟨_, h1, h2⟩ := Kd.R_reads' h
  have hl : (dropF ls).length = n := by unfold dropF; rw [List.length_take]; omega
  have h3 := Kd.C_take h2 (show ls.length - 1 ≤ ls.length by omega)
  refine ⟨A, n, by rw [hl], h3, by omega, fun hp => ?_⟩
  obtain ⟨g, cap, e1, h4, h5, cells, h6⟩ := Kd.R_form h (by omega)
  injection e1 with e2
  exact ⟨g, 0, cells, e2, h4, h6⟩
set_option maxRecDepth 100000 in
set_option maxHeartbeats 4000000 in
theorem lift_none_ (x : Ln) (b : Nat) (v1 v3 : Value) (w : World) (hb : Box_ w b x.q v1 x.k v3) (hr : Rd (Kd.int .i64) w v1 x.ls) (h0 : x.ls = []) :
    Calls Tryd.prog 92 #[.pointer (some ⟨b, 0, none⟩)] w fun e w' => e = .returned (.bool false) ∧ Drawn0 w w' := by
  have hu38 := Tryd.underlying38
  have HL := Aside0.mk (last_calls_ x.ls b v1 w hb.c1 hr)
  have hl : lastF x.ls = -1 := by rw [h0]; rfl
  rw [hl] at HL
  clear hr hl hb
  go_enter Tryd.func92, Tryd.ntmps92
  go_wp2_with (go_at_call 90; refine HL.out.mono ?_; rintro e w' ⟨rfl, ⟨nd, rfl⟩⟩)
  go_ret
  exact ⟨rfl, ⟨⟨nd, rfl⟩⟩⟩
set_option maxRecDepth 100000 in
set_option maxHeartbeats 4000000 in
theorem lift_some_ (x : Ln) (b n : Nat) (A : Option Addr) (c : Nat) (v3 : Value) (w : World) (hb : Box_ w b x.q (.slice A x.ls.length c) x.k v3) (hr : Rd (Kd.int .i64) w (.slice A x.ls.length c) x.ls) (hn : n + 1 = x.ls.length) (h0 : 0 ≤ lastF x.ls) :
    Calls Tryd.prog 92 #[.pointer (some ⟨b, 0, none⟩)] w fun e w' => e = .returned (.bool true) ∧ ∃ nd, w' = (w.drewN nd).setCell ⟨b, 1, none⟩ (.slice A n n) := by
  have hu38 := Tryd.underlying38
  have HL := Aside0.mk (last_calls_ x.ls b _ w hb.c1 hr)
  have hl := hr.len
  obtain ⟨A', c', e1, hC, hc⟩ := hr
  injection e1 with e2 _ e3
  subst e2
  subst e3
  obtain ⟨i, hi, _⟩ := infoI_
  have q := cut_hm_ (P := Tryd.prog) 35 3 .i64 .i64 Tryd.underlying35 hi A (n + 1) c (n : Int) (by omega) (by omega) (by omega)
  rw [Int.toNat_natCast] at q
  have hc1 := hb.c1
  have hf1 : w.frozen? ⟨b, 1, none⟩ = false := blk_frozen hb 1
  have d1 : decide (lastF x.ls < 0) = false := decide_eq_false (by omega)
  rw [← hn] at hc1 hl
  have hw : IntKind.i64.wrap (((n + 1 : Nat) : Int) - 1) = (n : Int) := by rw [i64_w]; unfold wrap64; omega
  clear hC hc hb h0 hn
  go_enter Tryd.func92, Tryd.ntmps92
  go_wp2_with (go_at_call 90; refine HL.out.mono ?_; rintro e w' ⟨rfl, ⟨nd, rfl⟩⟩)
  go_ret
  exact ⟨rfl, nd, rfl⟩
end Go.Proofs.YtgdpknmffohhaaaDoor.Pl

/- The closures that turn a line. -/
namespace Go.Proofs.YtgdpknmffohhaaaDoor.Pl
open Go.RowKit Go.Lib Go.Proofs.YtgdpknmffohhaaaDoorW.PrintWords Go.Proofs.YtgdpknmffohhaaaDoorW.PrintLast Go.Proofs.YtgdpknmffohhaaaDoorW.PrintMore
set_option linter.unusedVariables false
theorem mayL_parts {x : Ln} (h : mayL x = true) : (0 ≤ x.q ∧ x.q ≤ 6 ∧ x.ls.length ≤ 6 ∧ 0 ≤ x.k ∧ x.k ≤ 3 ∧ (x.ls.length = 0 ∨ x.k = 0)) ∧ (∀ k ∈ x.ls, k = 0 ∨ k = 1) ∧ ∀ c ∈ x.cs, bad_ c = false := by
  unfold mayL at h
  rw [Bool.and_eq_true, Bool.and_eq_true, decide_eq_true_eq] at h
  refine ⟨h.1, fun k hk => ?_, fun c hc => ?_⟩
  · have h2 := h.2.1
    rw [Bool.not_eq_true', List.any_eq_false] at h2
    have := h2 k hk
    unfold kindBad_ at this
    simp only [Bool.and_eq_true, bne_iff_ne, ne_eq] at this
    omega
  · have h2 := h.2.2
    rw [Bool.not_eq_true', List.any_eq_false] at h2
    simpa using h2 c hc
theorem mayL_of {x : Ln} (h1 : 0 ≤ x.q ∧ x.q ≤ 6 ∧ x.ls.length ≤ 6 ∧ 0 ≤ x.k ∧ x.k ≤ 3 ∧ (x.ls.length = 0 ∨ x.k = 0)) (h2 : ∀ k ∈ x.ls, k = 0 ∨ k = 1) (h3 : ∀ c ∈ x.cs, bad_ c = false) : mayL x = true := by
  unfold mayL
  rw [Bool.and_eq_true, Bool.and_eq_true, decide_eq_true_eq, Bool.not_eq_true', Bool.not_eq_true', List.any_eq_false, List.any_eq_false]
  refine ⟨h1, fun k hk => ?_, fun c hc => by rw [h3 c hc]; decide⟩
  unfold kindBad_
  rcases h2 k hk with rfl | rfl <;> decide
theorem snoc_of_ne {ls : List Int} (h : ls ≠ []) : ∃ l a, ls = l ++ [a] := ⟨ls.dropLast, ls.getLast h, (List.dropLast_concat_getLast h).symm⟩
theorem lastF_may {x : Ln} (h : mayL x = true) (h0 : x.ls ≠ []) : lastF x.ls = 0 ∨ lastF x.ls = 1 := by
  obtain ⟨l, a, e⟩ := snoc_of_ne h0
  rw [e, lastF_snoc]
  exact (mayL_parts h).2.1 a (by rw [e]; simp)
def indentF (x : Ln) : Bool × Ln := if x.ls = [] then (decide (x.q + 1 ≤ 6), { x with q := x.q + 1 }) else (decide ((x.ls.length : Int) + 1 ≤ 6), { x with ls := x.ls ++ [lastF x.ls] })
def outdentF (x : Ln) : Bool × Ln := if x.ls = [] then (decide (1 ≤ x.q), { x with q := x.q - 1 }) else (true, { x with ls := dropF x.ls })
def listF (kind : Int) (x : Ln) : Bool × Ln := if x.ls = [] then (true, { x with ls := [kind], k := 0 }) else (lastF x.ls != kind, { x with ls := x.ls.set (x.ls.length - 1) kind })
def formatF (kind : Int) (x : Ln) : Bool × Ln := (if x.ls = [] then x.k != kind else false, { x with k := kind })
def freeF (x : Ln) : Bool × Ln := if x.ls = [] then (if 0 < x.k then (true, { x with k := 0 }) else if 0 < x.q then (true, { x with q := x.q - 1 }) else (false, x)) else (true, { x with ls := dropF x.ls })
theorem grown_box_ {W w1 : World} {base : Nat} {v1 : Value} {ls : List Int} {o : Nat} {cells : Array Value} (hr : Kd.R (Kd.int .i64) 3 W base (fun _ => True) v1 ls) (hg : W.grownBy w1 v1.ownBlock) (h : W.heap[o]? = some (.cells cells 38 (0, 0))) : w1.heap[o]? = some (.cells cells 38 (0, 0)) :=
  blk_grown h hg (fun e => by
    obtain ⟨cs, hc⟩ := Kd.R_typed hr o e.symm
    rw [h] at hc
    injection hc with hc
    injection hc with _ hc
    exact absurd hc (by decide))
set_option maxRecDepth 100000 in
set_option maxHeartbeats 4000000 in
theorem indent_turns_ (w0 : World) : Turns_ w0 89 #[] indentF := by
  intro x W b v1 v3 hm hz hb hr1 hr3 hbb hB
  show Calls Tryd.prog 89 #[.pointer (some ⟨b, 0, none⟩)] W _
  have hu38 := Tryd.underlying38
  obtain ⟨A, c, rfl⟩ := Kd.R_slice hr1
  have HL := Aside0.mk (last_calls_ x.ls b _ W hb.c1 (Wr.of_R hr1).rd)
  have hmp := (mayL_parts hm).1
  unfold indentF
  by_cases h0 : x.ls = []
  · rw [if_pos h0]
    have hl : lastF x.ls = -1 := by rw [h0]; rfl
    rw [hl] at HL
    have hw : IntKind.i64.wrap (x.q + 1) = x.q + 1 := by rw [i64_w]; unfold wrap64; omega
    have c0 := hb.c0
    have f0 : W.frozen? ⟨b, 0, none⟩ = false := blk_frozen hb 0
    have HBX := Aside0.mk hb
    have H1 := Aside0.mk hr1
    have H3 := Aside0.mk hr3
    have HB := Aside0.mk hB
    clear hl hb hr1 hr3 hB hmp h0 hm hz
    go_enter Tryd.func89, Tryd.ntmps89
    go_wp2_with (go_at_call 90; refine HL.out.mono ?_; rintro e w' ⟨rfl, ⟨nd, rfl⟩⟩)
    go_ret
    refine ⟨_, rfl, blk_put (blk_drewN HBX.out nd) 0 _ rfl, Wr.of_R (R_put_ (Kd.R_drewN H1.out nd) (blk_drewN HBX.out nd) (by decide) 0 _), Wr.of_R (R_put_ (Kd.R_drewN H3.out nd) (blk_drewN HBX.out nd) (by decide) 0 _), below_set (pw_below_drewN HB.out nd) hbb, fun o cells hne ho => blk_off_ ho hne⟩
  · rw [if_neg h0]
    have hk := lastF_may hm h0
    have d1 : decide (lastF x.ls ≥ 0) = true := decide_eq_true (by omega)
    have HBX := Aside0.mk hb
    have H1 := Aside0.mk hr1
    have H3 := Aside0.mk hr3
    have HB := Aside0.mk hB
    have c1 := hb.c1
    have f1 : W.frozen? ⟨b, 1, none⟩ = false := blk_frozen hb 1
    have HZ := Aside0.mk (show x.ls.length ≤ 6 by omega)
    generalize lastF x.ls = kk at HL d1 ⊢
    clear hb hr1 hr3 hB hmp h0 hm hz hk
    go_enter Tryd.func89, Tryd.ntmps89
    go_wp2_with (first | (go_at_call 90; refine HL.out.mono ?_; rintro e w' ⟨rfl, ⟨nd, rfl⟩⟩) | ((with_reducible refine gate_builtin (b := .append) (xs := #[.tmp 12, .tmp 14]) rfl ?_); at_builtin; refine Kd.R_append (Kd.int .i64) (w0 := w0) w0.heap.size rfl (.tmp 12) (.tmp 14) 35 3 (.int .i64 0) 8 rfl Tryd.underlying35 info3 rfl (by decide) (by omega) (.slice A x.ls.length c) x.ls kk [.int .i64 kk] (fun _ => True) (fun _ => False) rfl rfl ?aP (fun _ hk => hk.elim) ?aF ?aO ?aB ?aS ?aL ?_; (case aP => rfl); (case aB => exact pw_below_drewN HB.out _); (case aF => exact (fun _ _ => trivial)); (case aO => exact Kd.R_drewN H1.out _); (case aS => exact HB.out.size); (case aL => have := HZ.out; omega); intro v1' w1 ho hbw hg hat; obtain ⟨A', c', rfl⟩ := Kd.R_slice ho; rw [List.length_append, List.length_singleton] at ho; have HO1 := Aside0.mk ho; have HB1 := Aside0.mk hbw; have HG := Aside0.mk hg; have fb := grown_box_ (Kd.R_drewN H1.out _) hg (blk_drewN HBX.out _); have c1' : w1.cell? ⟨b, 1, none⟩ = some (.slice A x.ls.length c) := (blk_cell fb 1).trans rfl; have f1' : w1.frozen? ⟨b, 1, none⟩ = false := blk_frozen fb 1; have FB := Aside0.mk fb; clear ho hbw hg hat fb))
    go_ret
    refine ⟨_, rfl, blk_put FB.out 1 _ rfl, Wr.of_R (R_put_ HO1.out FB.out (by decide) 1 _), Wr.of_R (R_put_ (Kd.R_over' (Kd.R_drewN H3.out nd) (Kd.R_typed (Kd.R_drewN H1.out nd)) (by decide) HG.out) FB.out (by decide) 1 _), below_set HB1.out hbb, fun o cells hne ho => blk_off_ (grown_box_ (Kd.R_drewN H1.out nd) HG.out ho) hne⟩
set_option maxRecDepth 100000 in
set_option maxHeartbeats 4000000 in
theorem outdent_turns_ (w0 : World) : Turns_ w0 91 #[] outdentF := by
  intro x W b v1 v3 hm hz hb hr1 hr3 hbb hB
  show Calls Tryd.prog 91 #[.pointer (some ⟨b, 0, none⟩)] W _
  have hu38 := Tryd.underlying38
  obtain ⟨A, c, rfl⟩ := Kd.R_slice hr1
  have hmp := (mayL_parts hm).1
  unfold outdentF
  have HBX := Aside0.mk hb
  have H1 := Aside0.mk hr1
  have H3 := Aside0.mk hr3
  have HB := Aside0.mk hB
  by_cases h0 : x.ls = []
  · rw [if_pos h0]
    have HL := Aside0.mk (lift_none_ x b _ v3 W hb (Wr.of_R hr1).rd h0)
    have hw : IntKind.i64.wrap (x.q - 1) = x.q - 1 := by rw [i64_w]; unfold wrap64; omega
    have c0 := hb.c0
    have f0 : W.frozen? ⟨b, 0, none⟩ = false := blk_frozen hb 0
    clear hb hr1 hr3 hB hmp h0 hm hz
    go_enter Tryd.func91, Tryd.ntmps91
    go_wp2_with (go_at_call 92; refine HL.out.mono ?_; rintro e w' ⟨rfl, ⟨nd, rfl⟩⟩)
    go_ret
    refine ⟨_, rfl, blk_put (blk_drewN HBX.out nd) 0 _ rfl, Wr.of_R (R_put_ (Kd.R_drewN H1.out nd) (blk_drewN HBX.out nd) (by decide) 0 _), Wr.of_R (R_put_ (Kd.R_drewN H3.out nd) (blk_drewN HBX.out nd) (by decide) 0 _), below_set (pw_below_drewN HB.out nd) hbb, fun o cells hne ho => blk_off_ ho hne⟩
  · rw [if_neg h0]
    have hk := lastF_may hm h0
    obtain ⟨n, hn⟩ : ∃ n, n + 1 = x.ls.length := ⟨x.ls.length - 1, by have := List.length_pos_iff.2 h0; omega⟩
    have HL := Aside0.mk (lift_some_ x b n A c v3 W hb (Wr.of_R hr1).rd hn (by omega))
    clear hb hr1 hr3 hB hmp h0 hm hz hk
    go_enter Tryd.func91, Tryd.ntmps91
    go_wp2_with (go_at_call 92; refine HL.out.mono ?_; rintro e w' ⟨rfl, nd, rfl⟩)
    go_ret
    refine ⟨_, rfl, blk_put (blk_drewN HBX.out nd) 1 _ rfl, Wr_shut_ (R_put_ (Kd.R_drewN H1.out nd) (blk_drewN HBX.out nd) (by decide) 1 _) hn, Wr.of_R (R_put_ (Kd.R_drewN H3.out nd) (blk_drewN HBX.out nd) (by decide) 1 _), below_set (pw_below_drewN HB.out nd) hbb, fun o cells hne ho => blk_off_ ho hne⟩
set_option maxRecDepth 100000 in
set_option maxHeartbeats 4000000 in
theorem format_turns_ (w0 : World) (kind : Int) (bk : Nat) (hk : w0.cell? ⟨bk, 0, none⟩ = some (.int .i64 kind)) : Turns_ w0 94 #[.pointer (some ⟨bk, 0, none⟩)] (formatF kind) := by
  intro x W b v1 v3 hm hz hb hr1 hr3 hbb hB
  show Calls Tryd.prog 94 #[.pointer (some ⟨b, 0, none⟩), .pointer (some ⟨bk, 0, none⟩)] W _
  have hu38 := Tryd.underlying38
  obtain ⟨A, c, rfl⟩ := Kd.R_slice hr1
  unfold formatF
  have HBX := Aside0.mk hb
  have H1 := Aside0.mk hr1
  have H3 := Aside0.mk hr3
  have HB := Aside0.mk hB
  have hbk : bk < w0.heap.size := World.block_lt_of_cell? _ _ hk
  have k0 : W.cell? ⟨bk, 0, none⟩ = some (.int .i64 kind) := (hB.cell hbk).trans hk
  have hne : bk ≠ b := by omega
  have k0' : ∀ u, (W.setCell ⟨b, 2, none⟩ u).cell? ⟨bk, 0, none⟩ = some (.int .i64 kind) := fun u => (cell_far (p := ⟨b, 2, none⟩) hne u).trans k0
  have c1' : ∀ u, (W.setCell ⟨b, 2, none⟩ u).cell? ⟨b, 1, none⟩ = some (.slice A x.ls.length c) := fun u => (blk_cell (blk_put hb 2 u rfl) 1).trans rfl
  have c2 := hb.c2
  have f2 : W.frozen? ⟨b, 2, none⟩ = false := blk_frozen hb 2
  clear hk hb hr1 hr3 hB hm hz hbk hne
  by_cases h0 : x.ls = []
  · have e0 : (x.ls.length == 0) = true := by rw [h0]; rfl
    rw [if_pos h0]
    go_enter Tryd.func94, Tryd.ntmps94
    go_wp2
    go_ret
    refine ⟨_, rfl, blk_put HBX.out 2 _ rfl, Wr.of_R (R_put_ H1.out HBX.out (by decide) 2 _), Wr.of_R (R_put_ H3.out HBX.out (by decide) 2 _), below_set HB.out hbb, fun o cells hne ho => blk_off_ ho hne⟩
  · have e0 : (x.ls.length == 0) = false := by
      have := List.length_pos_iff.2 h0
      exact beq_eq_false_iff_ne.mpr (by omega)
    rw [if_neg h0]
    go_enter Tryd.func94, Tryd.ntmps94
    go_wp2
    go_ret
    refine ⟨_, rfl, blk_put HBX.out 2 _ rfl, Wr.of_R (R_put_ H1.out HBX.out (by decide) 2 _), Wr.of_R (R_put_ H3.out HBX.out (by decide) 2 _), below_set HB.out hbb, fun o cells hne ho => blk_off_ ho hne⟩
set_option maxRecDepth 100000 in
set_option maxHeartbeats 4000000 in
theorem free_turns_ (w0 : World) : Turns_ w0 95 #[] freeF := by
  intro x W b v1 v3 hm hz hb hr1 hr3 hbb hB
  show Calls Tryd.prog 95 #[.pointer (some ⟨b, 0, none⟩)] W _
  have hu38 := Tryd.underlying38
  obtain ⟨A, c, rfl⟩ := Kd.R_slice hr1
  have hmp := (mayL_parts hm).1
  unfold freeF
  have HBX := Aside0.mk hb
  have H1 := Aside0.mk hr1
  have H3 := Aside0.mk hr3
  have HB := Aside0.mk hB
  by_cases h0 : x.ls = []
  · rw [if_pos h0]
    have HL := Aside0.mk (lift_none_ x b _ v3 W hb (Wr.of_R hr1).rd h0)
    have hw : IntKind.i64.wrap (x.q - 1) = x.q - 1 := by rw [i64_w]; unfold wrap64; omega
    have c0 := hb.c0
    have c2 := hb.c2
    have f0 : W.frozen? ⟨b, 0, none⟩ = false := blk_frozen hb 0
    have f2 : W.frozen? ⟨b, 2, none⟩ = false := blk_frozen hb 2
    clear hb hr1 hr3 hB hmp h0 hm hz
    by_cases hk : 0 < x.k
    · have d2 : decide (0 < x.k) = true := decide_eq_true hk
      rw [if_pos hk]
      clear hk
      go_enter Tryd.func95, Tryd.ntmps95
      go_wp2_with (go_at_call 92; refine HL.out.mono ?_; rintro e w' ⟨rfl, ⟨nd, rfl⟩⟩)
      go_ret
      refine ⟨_, rfl, blk_put (blk_drewN HBX.out nd) 2 _ rfl, Wr.of_R (R_put_ (Kd.R_drewN H1.out nd) (blk_drewN HBX.out nd) (by decide) 2 _), Wr.of_R (R_put_ (Kd.R_drewN H3.out nd) (blk_drewN HBX.out nd) (by decide) 2 _), below_set (pw_below_drewN HB.out nd) hbb, fun o cells hne ho => blk_off_ ho hne⟩
    · have d2 : decide (0 < x.k) = false := decide_eq_false hk
      rw [if_neg hk]
      clear hk
      by_cases hq : 0 < x.q
      · have d0 : decide (0 < x.q) = true := decide_eq_true hq
        rw [if_pos hq]
        clear hq
        go_enter Tryd.func95, Tryd.ntmps95
        go_wp2_with (go_at_call 92; refine HL.out.mono ?_; rintro e w' ⟨rfl, ⟨nd, rfl⟩⟩)
        go_ret
        refine ⟨_, rfl, blk_put (blk_drewN HBX.out nd) 0 _ rfl, Wr.of_R (R_put_ (Kd.R_drewN H1.out nd) (blk_drewN HBX.out nd) (by decide) 0 _), Wr.of_R (R_put_ (Kd.R_drewN H3.out nd) (blk_drewN HBX.out nd) (by decide) 0 _), below_set (pw_below_drewN HB.out nd) hbb, fun o cells hne ho => blk_off_ ho hne⟩
      · have d0 : decide (0 < x.q) = false := decide_eq_false hq
        rw [if_neg hq]
        clear hq
        go_enter Tryd.func95, Tryd.ntmps95
        go_wp2_with (go_at_call 92; refine HL.out.mono ?_; rintro e w' ⟨rfl, ⟨nd, rfl⟩⟩)
        go_ret
        refine ⟨_, rfl, blk_drewN HBX.out nd, Wr.of_R (Kd.R_drewN H1.out nd), Wr.of_R (Kd.R_drewN H3.out nd), pw_below_drewN HB.out nd, fun o cells hne ho => ho⟩
  · rw [if_neg h0]
    have hk := lastF_may hm h0
    obtain ⟨n, hn⟩ : ∃ n, n + 1 = x.ls.length := ⟨x.ls.length - 1, by have := List.length_pos_iff.2 h0; omega⟩
    have HL := Aside0.mk (lift_some_ x b n A c v3 W hb (Wr.of_R hr1).rd hn (by omega))
    clear hb hr1 hr3 hB hmp h0 hm hz hk
    go_enter Tryd.func95, Tryd.ntmps95
    go_wp2_with (go_at_call 92; refine HL.out.mono ?_; rintro e w' ⟨rfl, nd, rfl⟩)
    go_ret
    refine ⟨_, rfl, blk_put (blk_drewN HBX.out nd) 1 _ rfl, Wr_shut_ (R_put_ (Kd.R_drewN H1.out nd) (blk_drewN HBX.out nd) (by decide) 1 _) hn, Wr.of_R (R_put_ (Kd.R_drewN H3.out nd) (blk_drewN HBX.out nd) (by decide) 1 _), below_set (pw_below_drewN HB.out nd) hbb, fun o cells hne ho => blk_off_ ho hne⟩
end Go.Proofs.YtgdpknmffohhaaaDoor.Pl

/- The closure of lines.List. -/
namespace Go.Proofs.YtgdpknmffohhaaaDoor.Pl
open Go.RowKit Go.Lib Go.Proofs.YtgdpknmffohhaaaDoorW.PrintWords Go.Proofs.YtgdpknmffohhaaaDoorW.PrintLast Go.Proofs.YtgdpknmffohhaaaDoorW.PrintMore
set_option linter.unusedVariables false
theorem int_elem_ {W : World} {B g n cap : Nat} {ok : Nat → Prop} {xs : List Int} (h : Kd.R (Kd.int .i64) 3 W B ok (.slice (some ⟨g, 0, none⟩) n cap) xs) (k : Nat) (hk : k < xs.length) :
    W.cell? ⟨g, k, none⟩ = some (.int .i64 (rd xs (k : Int))) ∧ W.frozen? ⟨g, k, none⟩ = false ∧ ∀ b : Int, Kd.R (Kd.int .i64) 3 (W.setCell ⟨g, k, none⟩ (.int .i64 b)) B ok (.slice (some ⟨g, 0, none⟩) n cap) (xs.set k b) := by
  have hn : n = xs.length := (Kd.R_reads' h).1
  obtain ⟨ce, hcl, hM, hcc, hfr⟩ := Kd.R_elem h 0 (k : Int) (by omega) (by omega)
  obtain rfl : ce = [.int .i64 (rd xs (k : Int))] := hM
  have h0 := hcc 0 _ rfl
  have h1 := hfr 0
  have h2 := fun b : Int => (Kd.R_seg h (k : Int) (by omega) (by omega) (seg := [.int .i64 b]) (j := 0) hcl hcc (show 1 ≤ 1 from by decide) (x' := b) rfl (fun _ hk => hk)).1
  simp only [show (Kd.int .i64).sz = 1 from rfl, Nat.mul_one, Nat.add_zero, Int.toNat_natCast] at h0 h1 h2
  exact ⟨h0, h1, h2⟩
theorem Wr_one_ {W : World} {g base : Nat} {k : Int} (h : W.heap[g]? = some (.cells #[.int .i64 k] 3 (0, 0))) (hb : base ≤ g) : Wr (Kd.int .i64) 3 W base (.slice (some ⟨g, 0, none⟩) 1 1) [k] := by
  refine ⟨some ⟨g, 0, none⟩, 1, rfl, ⟨rfl, by simp, fun _ => ⟨_, rfl, fun j p hj => ?_⟩⟩, Nat.le_refl _, fun _ => ⟨g, 0, _, rfl, hb, h⟩⟩
  cases j with
  | zero =>
    cases hj
    refine ⟨[.int .i64 k], rfl, rfl, fun i u hu => ?_⟩
    cases i with
    | zero => cases hu; exact (blk_cell h 0).trans rfl
    | succ i => cases hu
  | succ j => simp at hj
set_option maxRecDepth 100000 in
set_option maxHeartbeats 4000000 in
theorem list_turns_ (w0 : World) (kind : Int) (bk : Nat) (hk : w0.cell? ⟨bk, 0, none⟩ = some (.int .i64 kind)) : Turns_ w0 93 #[.pointer (some ⟨bk, 0, none⟩)] (listF kind) := by
  intro x W b v1 v3 hm hz hb hr1 hr3 hbb hB
  show Calls Tryd.prog 93 #[.pointer (some ⟨b, 0, none⟩), .pointer (some ⟨bk, 0, none⟩)] W _
  have hu38 := Tryd.underlying38
  obtain ⟨A, c, rfl⟩ := Kd.R_slice hr1
  unfold listF
  have HL := Aside0.mk (last_calls_ x.ls b _ W hb.c1 (Wr.of_R hr1).rd)
  have HBX := Aside0.mk hb
  have H1 := Aside0.mk hr1
  have H3 := Aside0.mk hr3
  have HB := Aside0.mk hB
  have hbk : bk < w0.heap.size := World.block_lt_of_cell? _ _ hk
  have k0 : W.cell? ⟨bk, 0, none⟩ = some (.int .i64 kind) := (hB.cell hbk).trans hk
  have hne : bk ≠ b := by omega
  by_cases h0 : x.ls = []
  · rw [if_pos h0]
    have hl : lastF x.ls = -1 := by rw [h0]; rfl
    rw [hl] at HL
    have f1 : ∀ nd o', ((W.drewN nd).alloc o').frozen? ⟨b, 1, none⟩ = false := fun nd o' => blk_frozen (blk_alloc (blk_drewN hb nd) o') 1
    have f2 : ∀ nd o', ((W.drewN nd).alloc o').frozen? ⟨b, 2, none⟩ = false := fun nd o' => blk_frozen (blk_alloc (blk_drewN hb nd) o') 2
    have c1 : ∀ nd o', ((W.drewN nd).alloc o').cell? ⟨b, 1, none⟩ = some (.slice A x.ls.length c) := fun nd o' => (blk_cell (blk_alloc (blk_drewN hb nd) o') 1).trans rfl
    have c2 : ∀ nd o', ((W.drewN nd).alloc o').cell? ⟨b, 2, none⟩ = some (.int .i64 x.k) := fun nd o' => (blk_cell (blk_alloc (blk_drewN hb nd) o') 2).trans rfl
    clear hk hb hr1 hr3 hB hm hz hbk hne hl h0
    go_enter Tryd.func93, Tryd.ntmps93
    go_wp2_with (go_at_call 90; refine HL.out.mono ?_; rintro e w' ⟨rfl, ⟨nd, rfl⟩⟩)
    go_ret
    have B1 : ((W.drewN nd).alloc (.cells #[.int .i64 kind] 3)).heap[b]? = some _ := blk_alloc (blk_drewN HBX.out nd) _
    have N1 : ((W.drewN nd).alloc (.cells #[.int .i64 kind] 3)).heap[W.heap.size]? = some (.cells #[.int .i64 kind] 3 (0, 0)) := heap_alloc_new (W.drewN nd) _
    have hlt : b < W.heap.size := blk_lt HBX.out
    refine ⟨_, rfl, blk_put (blk_put B1 1 _ rfl) 2 _ rfl, Wr_one_ (blk_off_ (blk_off_ N1 (by omega)) (by omega)) HB.out.size, Wr.of_R (R_put_ (R_put_ (Kd.R_alloc (Kd.R_drewN H3.out nd) _) B1 (by decide) 1 _) (blk_put B1 1 _ rfl) (by decide) 2 _), below_set (below_set (below_alloc (pw_below_drewN HB.out nd) _) hbb) hbb, fun o cells hne ho => blk_off_ (blk_off_ (blk_alloc (blk_drewN ho nd) _) hne) hne⟩
  · rw [if_neg h0]
    have hkm := lastF_may hm h0
    obtain ⟨n, hn⟩ : ∃ n, n + 1 = x.ls.length := ⟨x.ls.length - 1, by have := List.length_pos_iff.2 h0; omega⟩
    have d1 : decide (lastF x.ls < 0) = false := decide_eq_false (by omega)
    obtain ⟨g, cap, e1, hgb, hgl, cl, hcl⟩ := Kd.R_form hr1 (by omega)
    injection e1 with e2 _ e3
    subst e2
    subst e3
    obtain ⟨x0, f0, hset⟩ := int_elem_ hr1 n (by omega)
    have HSET := Aside0.mk (hset kind)
    have hgne : ∀ o cells, W.heap[o]? = some (.cells cells 38 (0, 0)) → o ≠ g := fun o cells ho e => by
      subst e
      rw [hcl] at ho
      injection ho with ho
      injection ho with _ ho
      exact absurd ho (by decide)
    have HGNE := Aside0.mk hgne
    have HCL := Aside0.mk hcl
    have c1 := hb.c1
    rw [← hn] at c1
    have hw : IntKind.i64.wrap (n : Int) = (n : Int) := by rw [i64_w]; unfold wrap64; have := (Wr.of_R hr1).rd.len; omega
    have k1 : ∀ m u, ((W.drewN m).setCell ⟨g, n, none⟩ u).cell? ⟨bk, 0, none⟩ = some (.int .i64 kind) := fun m u => (cell_far (W := W.drewN m) (p := ⟨g, n, none⟩) (show bk ≠ g by omega) u).trans k0
    have hn1 : x.ls.length - 1 = n := by omega
    rw [hn1]
    generalize lastF x.ls = kk at HL d1 ⊢
    have HGB := Aside0.mk hgb
    clear hk hb hr1 hr3 hB hm hz hbk hne h0 hkm hset hgne hgb hgl hcl hn1 hn
    go_enter Tryd.func93, Tryd.ntmps93
    go_wp2_with (go_at_call 90; refine HL.out.mono ?_; rintro e w' ⟨rfl, ⟨nd, rfl⟩⟩)
    go_region
    all_goals
      go_wp2
      go_ret
      refine ⟨_, rfl, blk_off_ (blk_drewN HBX.out _) (HGNE.out _ _ HBX.out), Wr.of_R (Kd.R_drewN HSET.out _), Wr.of_R (R_put_ (Kd.R_drewN H3.out _) (blk_drewN HCL.out _) (by decide) n _), below_set (pw_below_drewN HB.out _) HGB.out, fun o cells hne ho => blk_off_ (blk_drewN ho _) (HGNE.out _ _ ho)⟩
end Go.Proofs.YtgdpknmffohhaaaDoor.Pl

/- lines.turned, and what it is called for: a line indented, outdented, in a list, as a heading, freed. -/
namespace Go.Proofs.YtgdpknmffohhaaaDoor.Pl
open Go.RowKit Go.Lib Go.Proofs.YtgdpknmffohhaaaDoorW.PrintWords Go.Proofs.YtgdpknmffohhaaaDoorW.PrintLast Go.Proofs.YtgdpknmffohhaaaDoorW.PrintMore
set_option linter.unusedVariables false
def turnR (F : Ln → Bool × Ln) (x : Ln) : Ln × Int := if mayL x = true then (if (F x).1 = true then ((F x).2, 0) else (zeroLn, 7)) else (zeroLn, 1)
/-- a line and an error, handed back -/
def Back_ (w : World) (r : Ln × Int) (e : Ending) (w' : World) : Prop := ∃ v', e = .returned (.tuple #[v', .int .i64 r.2]) ∧ WrL w' w.heap.size v' r.1 ∧ Below w.heap.size w w'
theorem Wr.slice_ {α : Type} {d : Kd α} {e : Nat} {W : World} {base : Nat} {v : Value} {xs : List α} (h : Wr d e W base v xs) : ∃ A c, v = .slice A xs.length c := by
  obtain ⟨A, c, e, _⟩ := h
  exact ⟨A, c, e⟩
theorem Wr_put_ {α : Type} {d : Kd α} {e : Nat} {W : World} {base : Nat} {v : Value} {xs : List α} {g t : Nat} {cells : Array Value} (h : Wr d e W base v xs) (hb : W.heap[g]? = some (.cells cells t (0, 0))) (ht : e ≠ t) (hE : d.E = []) (i : Nat) (u : Value) (hK : ∀ (W W1 : World) x cs, d.K W x cs → d.K W1 x cs) : Wr d e (W.setCell ⟨g, i, none⟩ u) base v xs := by
  obtain ⟨A, c, e1, h1, h2, h3⟩ := h
  refine ⟨A, c, e1, ⟨h1.1, h1.2.1, fun hp => ?_⟩, h2, fun hp => ?_⟩
  · obtain ⟨ad, e2, h4⟩ := h1.2.2 hp
    obtain ⟨g', off, cells', e3, h5, h6⟩ := h3 hp
    have hne : g' ≠ g := fun e4 => by
      subst e4
      rw [hb] at h6
      injection h6 with h6
      injection h6 with _ h6
      exact ht h6.symm
    refine ⟨ad, e2, fun j p hj => ?_⟩
    obtain ⟨cs, h7, h8, h9⟩ := h4 j p hj
    refine ⟨cs, h7, hK _ _ _ _ h8, fun i' u' hu => ?_⟩
    have := h9 i' u' hu
    rw [e2] at e3
    injection e3 with e3
    subst e3
    exact (cell_far (p := ⟨g, i, none⟩) (by rw [add_block]; exact hne) u).trans this
  · obtain ⟨g', off, cells', e3, h5, h6⟩ := h3 hp
    have hne : g' ≠ g := fun e4 => by
      subst e4
      rw [hb] at h6
      injection h6 with h6
      injection h6 with _ h6
      exact ht h6.symm
    exact ⟨g', off, cells', e3, h5, blk_off_ h6 hne⟩
theorem WrI_put_ {W : World} {base : Nat} {v : Value} {xs : List Int} {g t : Nat} {cells : Array Value} (h : Wr (Kd.int .i64) 3 W base v xs) (hb : W.heap[g]? = some (.cells cells t (0, 0))) (ht : 3 ≠ t) (i : Nat) (u : Value) : Wr (Kd.int .i64) 3 (W.setCell ⟨g, i, none⟩ u) base v xs := Wr_put_ h hb ht rfl i u (fun _ _ _ _ h => h)
theorem WrC_put_ {W : World} {base : Nat} {v : Value} {xs : List S71} {g t : Nat} {cells : Array Value} (h : Wr k71 71 W base v xs) (hb : W.heap[g]? = some (.cells cells t (0, 0))) (ht : 71 ≠ t) (i : Nat) (u : Value) : Wr k71 71 (W.setCell ⟨g, i, none⟩ u) base v xs := Wr_put_ h hb ht rfl i u (fun _ _ _ _ h => h)
section
variable {W : World} {base : Nat} {v : Value} {g : Nat} {a b c d z0 z1 z2 z3 : Value} {t : Nat}
theorem put4_WrI {xs : List Int} (h : Wr (Kd.int .i64) 3 W base v xs) (hb : W.heap[g]? = some (.cells #[z0, z1, z2, z3] t (0, 0))) (ht : 3 ≠ t) : Wr (Kd.int .i64) 3 (put4_ W g a b c d) base v xs :=
  WrI_put_ (WrI_put_ (WrI_put_ (WrI_put_ h hb ht 0 a) (blk_put hb 0 a rfl) ht 1 b) (blk_put (blk_put hb 0 a rfl) 1 b rfl) ht 2 c) (blk_put (blk_put (blk_put hb 0 a rfl) 1 b rfl) 2 c rfl) ht 3 d
theorem put4_WrC {xs : List S71} (h : Wr k71 71 W base v xs) (hb : W.heap[g]? = some (.cells #[z0, z1, z2, z3] t (0, 0))) (ht : 71 ≠ t) : Wr k71 71 (put4_ W g a b c d) base v xs :=
  WrC_put_ (WrC_put_ (WrC_put_ (WrC_put_ h hb ht 0 a) (blk_put hb 0 a rfl) ht 1 b) (blk_put (blk_put hb 0 a rfl) 1 b rfl) ht 2 c) (blk_put (blk_put (blk_put hb 0 a rfl) 1 b rfl) 2 c rfl) ht 3 d
theorem put4_WrL {x : Ln} (h : WrL W base v x) (hb : W.heap[g]? = some (.cells #[z0, z1, z2, z3] 38 (0, 0))) : WrL (put4_ W g a b c d) base v x := by
  obtain ⟨v1, v3, e, h1, h3⟩ := h
  exact ⟨v1, v3, e, put4_WrI h1 hb (by decide), put4_WrC h3 hb (by decide)⟩
end
set_option maxRecDepth 100000 in
set_option maxHeartbeats 8000000 in
theorem turned_calls_ (x : Ln) (v : Value) (w : World) (g : Nat) (lb : Array Value) (F : Ln → Bool × Ln) (hx : RdL w v x) (hz : Sz x) (hG : Gl_ w) (eg : ∀ args w, (callFunc g args).run Tryd.prog w = .ok (.enter g args) w) (hT : Turns_ w g lb F) :
    Calls Tryd.prog 88 #[v, .func (.func g) #[] lb] w fun e w' => Back_ w (turnR F x) e w' := by
  have hu38 := Tryd.underlying38
  obtain ⟨_, _, rfl, ⟨A1, c1, rfl, h1, hc1⟩, ⟨A3, c3, rfl, h3, hc3⟩⟩ := hx
  have HX := Aside0.mk (show RdL w (.agg #[.int .i64 x.q, .slice A1 x.ls.length c1, .int .i64 x.k, .slice A3 x.cs.length c3]) x from ⟨_, _, rfl, ⟨A1, c1, rfl, h1, hc1⟩, ⟨A3, c3, rfl, h3, hc3⟩⟩)
  have HM := Aside0.mk (fun W (hW : Below w.heap.size w W) => may_calls_ x _ W (HX.out.below hW) hz (hG.below hW))
  have HO := Aside0.mk (fun W (hW : Below w.heap.size w W) => own_calls_ x _ W (HX.out.below hW) hz)
  have HT := Aside0.mk hT
  have HZ := Aside0.mk hz
  clear h1 h3 hc1 hc3 hz hG hT HX
  obtain ⟨F1, F2, F3⟩ := two_boxes_ w (.cells #[.int .i64 x.q, .slice A1 x.ls.length c1, .int .i64 x.k, .slice A3 x.cs.length c3] 38) (.cells #[.int .i64 0, .slice none 0 0, .int .i64 0, .slice none 0 0] 38)
  go_enter Tryd.func88, Tryd.ntmps88
  go_upto_region 1 with (fail)
  generalize (w.alloc (.cells #[.int .i64 x.q, .slice A1 x.ls.length c1, .int .i64 x.k, .slice A3 x.cs.length c3] 38)).alloc (.cells #[.int .i64 0, .slice none 0 0, .int .i64 0, .slice none 0 0] 38) = W0 at F1 F2 F3 ⊢
  have a0 : W0.cell? ⟨w.heap.size, 0, none⟩ = some (.int .i64 x.q) := (blk_cell F1 0).trans rfl
  have a1 : W0.cell? ⟨w.heap.size, 1, none⟩ = some (.slice A1 x.ls.length c1) := (blk_cell F1 1).trans rfl
  have a2 : W0.cell? ⟨w.heap.size, 2, none⟩ = some (.int .i64 x.k) := (blk_cell F1 2).trans rfl
  have a3 : W0.cell? ⟨w.heap.size, 3, none⟩ = some (.slice A3 x.cs.length c3) := (blk_cell F1 3).trans rfl
  have H1 := Aside0.mk F1
  have H2 := Aside0.mk F2
  have H3 := Aside0.mk F3
  clear F1 F2 F3
  cases hm : mayL x with
  | false =>
    rw [hm] at HM
    have HR := Aside0.mk (show turnR F x = (zeroLn, 1) by unfold turnR; rw [hm]; rfl)
    go_wp2_with (go_at_call 37; refine (HM.out _ H3.out).mono ?_; rintro e w1 ⟨rfl, hb⟩; have HB1 := Aside0.mk hb; have fb := blk_below H2.out hb; have e0 := blk_frozen fb 0; have e1 := blk_frozen fb 1; have e2 := blk_frozen fb 2; have e3 := blk_frozen fb 3; have b0 : w1.cell? ⟨w.heap.size + 1, 0, none⟩ = some (.int .i64 0) := (blk_cell fb 0).trans rfl; have b1 : w1.cell? ⟨w.heap.size + 1, 1, none⟩ = some (.slice none 0 0) := (blk_cell fb 1).trans rfl; have b2 : w1.cell? ⟨w.heap.size + 1, 2, none⟩ = some (.int .i64 0) := (blk_cell fb 2).trans rfl; have b3 : w1.cell? ⟨w.heap.size + 1, 3, none⟩ = some (.slice none 0 0) := (blk_cell fb 3).trans rfl; have FB := Aside0.mk fb; clear hb fb)
    refine bodyPost_ret (results_ct rfl _ _ (w.heap.size + 1) 38 #[.int .i64 0, .slice none 0 0, .int .i64 0, .slice none 0 0] (0, 0) _ rfl (put4_blk FB.out) Tryd.underlying38 rfl (by kernel_rfl)) rfl ?_
    exact ⟨_, by rw [HR.out]; rfl, by rw [HR.out]; exact WrL_zero _ _, put4_below (below_step H3.out HB1.out) (Nat.le_succ _)⟩
  | true =>
    rw [hm] at HM
    go_upto_region 4 with (first
      | (go_at_call 37; refine (HM.out _ H3.out).mono ?_; rintro e w1 ⟨rfl, hb⟩; have a0' : w1.cell? ⟨w.heap.size, 0, none⟩ = _ := (hb.cell (World.block_lt_of_cell? _ _ a0)).trans a0; have a1' : w1.cell? ⟨w.heap.size, 1, none⟩ = _ := (hb.cell (World.block_lt_of_cell? _ _ a1)).trans a1; have a2' : w1.cell? ⟨w.heap.size, 2, none⟩ = _ := (hb.cell (World.block_lt_of_cell? _ _ a2)).trans a2; have a3' : w1.cell? ⟨w.heap.size, 3, none⟩ = _ := (hb.cell (World.block_lt_of_cell? _ _ a3)).trans a3; have HB1 := Aside0.mk hb; clear hb)
      | (go_at_call 39; refine (HO.out _ (below_step H3.out HB1.out)).mono ?_; rintro e w2 ⟨u1, u3, rfl, ho1, ho3, hb⟩; obtain ⟨B1, d1, rfl⟩ := Kd.R_slice ho1; obtain ⟨B3, d3, rfl⟩ := Kd.R_slice ho3; have HO1 := Aside0.mk ho1; have HO3 := Aside0.mk ho3; have fb := blk_below (blk_below H1.out HB1.out) hb; have e0 := blk_frozen fb 0; have e1 := blk_frozen fb 1; have e2 := blk_frozen fb 2; have e3 := blk_frozen fb 3; have b0 : w2.cell? ⟨w.heap.size, 0, none⟩ = some (.int .i64 x.q) := (blk_cell fb 0).trans rfl; have b1 : w2.cell? ⟨w.heap.size, 1, none⟩ = some (.slice A1 x.ls.length c1) := (blk_cell fb 1).trans rfl; have b2 : w2.cell? ⟨w.heap.size, 2, none⟩ = some (.int .i64 x.k) := (blk_cell fb 2).trans rfl; have b3 : w2.cell? ⟨w.heap.size, 3, none⟩ = some (.slice A3 x.cs.length c3) := (blk_cell fb 3).trans rfl; have FB := Aside0.mk fb; have HB2 := Aside0.mk hb; clear ho1 ho3 hb fb))
    have P1 := put4_blk (a := .int .i64 x.q) (b := .slice B1 x.ls.length d1) (c := .int .i64 x.k) (d := .slice B3 x.cs.length d3) FB.out
    have P2 := put4_off (g := w.heap.size) (a := .int .i64 x.q) (b := .slice B1 x.ls.length d1) (c := .int .i64 x.k) (d := .slice B3 x.cs.length d3) (blk_below (blk_below H2.out HB1.out) HB2.out) (by omega)
    have PO1 := put4_R (a := .int .i64 x.q) (b := .slice B1 x.ls.length d1) (c := .int .i64 x.k) (d := .slice B3 x.cs.length d3) (Kd.R_lower HO1.out (below_size (below_step H3.out HB1.out))) FB.out (by decide)
    have PO3 := put4_R (a := .int .i64 x.q) (b := .slice B1 x.ls.length d1) (c := .int .i64 x.k) (d := .slice B3 x.cs.length d3) (Kd.R_lower HO3.out (below_size (below_step H3.out HB1.out))) FB.out (by decide)
    have PB := put4_below (a := .int .i64 x.q) (b := .slice B1 x.ls.length d1) (c := .int .i64 x.k) (d := .slice B3 x.cs.length d3) (below_step (below_step H3.out HB1.out) HB2.out) (Nat.le_refl _)
    unfold put4_ at P1 P2 PO1 PO3 PB
    generalize (((w2.setCell ⟨w.heap.size, 0, none⟩ (.int .i64 x.q)).setCell ⟨w.heap.size, 1, none⟩ (.slice B1 x.ls.length d1)).setCell ⟨w.heap.size, 2, none⟩ (.int .i64 x.k)).setCell ⟨w.heap.size, 3, none⟩ (.slice B3 x.cs.length d3) = W3 at P1 P2 PO1 PO3 PB ⊢
    have HC := Aside0.mk (HT.out x W3 w.heap.size _ _ hm HZ.out P1 PO1 PO3 (Nat.le_refl _) PB)
    have Q2 := Aside0.mk P2
    clear P1 P2 PO1 PO3 PB e0 e1 e2 e3 b0 b1 b2 b3 a0 a1 a2 a3 a0' a1' a2' a3' HO1 HO3 FB HB1 HB2 H1 H2 H3 HM HO HT
    generalize hF : F x = r at HC
    obtain ⟨r, y⟩ := r
    cases r with
    | false =>
      have HR := Aside0.mk (show turnR F x = (zeroLn, 7) by unfold turnR; rw [hm, hF]; rfl)
      clear hF
      go_wp2_with (go_at_fn g; refine HC.out.mono ?_; rintro e w4 ⟨u1, rfl, hbx, hw1, hw3, hb, hoth⟩; have fb := hoth (w.heap.size + 1) _ (by omega) Q2.out; have e0 := blk_frozen fb 0; have e1 := blk_frozen fb 1; have e2 := blk_frozen fb 2; have e3 := blk_frozen fb 3; have b0 : w4.cell? ⟨w.heap.size + 1, 0, none⟩ = some (.int .i64 0) := (blk_cell fb 0).trans rfl; have b1 : w4.cell? ⟨w.heap.size + 1, 1, none⟩ = some (.slice none 0 0) := (blk_cell fb 1).trans rfl; have b2 : w4.cell? ⟨w.heap.size + 1, 2, none⟩ = some (.int .i64 0) := (blk_cell fb 2).trans rfl; have b3 : w4.cell? ⟨w.heap.size + 1, 3, none⟩ = some (.slice none 0 0) := (blk_cell fb 3).trans rfl; have FB := Aside0.mk fb; have HB4 := Aside0.mk hb; clear hb fb hbx hw1 hw3 hoth)
      refine bodyPost_ret (results_ct rfl _ _ (w.heap.size + 1) 38 #[.int .i64 0, .slice none 0 0, .int .i64 0, .slice none 0 0] (0, 0) _ rfl (put4_blk FB.out) Tryd.underlying38 rfl (by kernel_rfl)) rfl ?_
      exact ⟨_, by rw [HR.out]; rfl, by rw [HR.out]; exact WrL_zero _ _, put4_below HB4.out (Nat.le_succ _)⟩
    | true =>
      have HR := Aside0.mk (show turnR F x = (y, 0) by unfold turnR; rw [hm, hF]; rfl)
      clear hF
      go_wp2_with (go_at_fn g; refine HC.out.mono ?_; rintro e w4 ⟨u1, rfl, hbx, hw1, hw3, hb, hoth⟩; obtain ⟨B1', d1', rfl⟩ := hw1.slice_; have HL := Aside0.mk (show WrL w4 w.heap.size (.agg #[.int .i64 y.q, .slice B1' y.ls.length d1', .int .i64 y.k, .slice B3 x.cs.length d3]) y from ⟨_, _, rfl, hw1, hw3⟩); have fb := hoth (w.heap.size + 1) _ (by omega) Q2.out; have a0 := hbx.c0; have a1 := hbx.c1; have a2 := hbx.c2; have a3 := hbx.c3; have e0 := blk_frozen fb 0; have e1 := blk_frozen fb 1; have e2 := blk_frozen fb 2; have e3 := blk_frozen fb 3; have b0 : w4.cell? ⟨w.heap.size + 1, 0, none⟩ = some (.int .i64 0) := (blk_cell fb 0).trans rfl; have b1 : w4.cell? ⟨w.heap.size + 1, 1, none⟩ = some (.slice none 0 0) := (blk_cell fb 1).trans rfl; have b2 : w4.cell? ⟨w.heap.size + 1, 2, none⟩ = some (.int .i64 0) := (blk_cell fb 2).trans rfl; have b3 : w4.cell? ⟨w.heap.size + 1, 3, none⟩ = some (.slice none 0 0) := (blk_cell fb 3).trans rfl; have FB := Aside0.mk fb; have HB4 := Aside0.mk hb; clear hb fb hbx hw1 hw3 hoth)
      refine bodyPost_ret (results_ct rfl _ _ (w.heap.size + 1) 38 #[.int .i64 y.q, .slice B1' y.ls.length d1', .int .i64 y.k, .slice B3 x.cs.length d3] (0, 0) _ rfl (put4_blk FB.out) Tryd.underlying38 rfl (by kernel_rfl)) rfl ?_
      exact ⟨_, by rw [HR.out]; rfl, by rw [HR.out]; exact put4_WrL HL.out FB.out, put4_below HB4.out (Nat.le_succ _)⟩
end Go.Proofs.YtgdpknmffohhaaaDoor.Pl

/- lines.Indent, Outdent, List, Format, Free. -/
namespace Go.Proofs.YtgdpknmffohhaaaDoor.Pl
open Go.RowKit Go.Lib Go.Proofs.YtgdpknmffohhaaaDoorW.PrintWords Go.Proofs.YtgdpknmffohhaaaDoorW.PrintLast Go.Proofs.YtgdpknmffohhaaaDoorW.PrintMore
set_option linter.unusedVariables false
theorem three_boxes_ (w : World) (O1 O2 O3 : Obj) : (((w.alloc O1).alloc O2).alloc O3).heap[w.heap.size]? = some O1 ∧ (((w.alloc O1).alloc O2).alloc O3).heap[w.heap.size + 1]? = some O2 ∧ (((w.alloc O1).alloc O2).alloc O3).heap[w.heap.size + 2]? = some O3 ∧ Below w.heap.size w (((w.alloc O1).alloc O2).alloc O3) := by
  obtain ⟨h1, h2, h3⟩ := two_boxes_ w O1 O2
  refine ⟨blk_alloc h1 O3, blk_alloc h2 O3, ?_, below_alloc h3 O3⟩
  have h := heap_alloc_new ((w.alloc O1).alloc O2) O3
  rwa [World.size_alloc, World.size_alloc] at h
def listR (kind : Int) (x : Ln) : Ln × Int := if kind = 0 ∨ kind = 1 then turnR (listF kind) x else (zeroLn, 1)
def formatR (kind : Int) (x : Ln) : Ln × Int := if 0 ≤ kind ∧ kind ≤ 3 then turnR (formatF kind) x else (zeroLn, 1)
theorem Back_.low {w W0 : World} {r : Ln × Int} {e : Ending} {w' : World} (h : Back_ W0 r e w') : ∃ B1 d1 B3 d3, e = .returned (.tuple #[.agg #[.int .i64 r.1.q, .slice B1 r.1.ls.length d1, .int .i64 r.1.k, .slice B3 r.1.cs.length d3], .int .i64 r.2]) ∧ WrL w' W0.heap.size (.agg #[.int .i64 r.1.q, .slice B1 r.1.ls.length d1, .int .i64 r.1.k, .slice B3 r.1.cs.length d3]) r.1 ∧ Below W0.heap.size W0 w' := by
  obtain ⟨v', rfl, ⟨u1, u3, rfl, h1, h3⟩, hb⟩ := h
  obtain ⟨B1, d1, rfl⟩ := h1.slice_
  obtain ⟨B3, d3, rfl⟩ := h3.slice_
  exact ⟨B1, d1, B3, d3, rfl, ⟨_, _, rfl, h1, h3⟩, hb⟩
set_option maxRecDepth 100000 in
set_option maxHeartbeats 4000000 in
theorem indent_calls_ (x : Ln) (v : Value) (w : World) (hx : RdL w v x) (hz : Sz x) (hG : Gl_ w) :
    Calls Tryd.prog 42 #[v] w fun e w' => Back_ w (turnR indentF x) e w' := by
  have hu38 := Tryd.underlying38
  obtain ⟨_, _, rfl, ⟨A1, c1, rfl, h1, hc1⟩, ⟨A3, c3, rfl, h3, hc3⟩⟩ := hx
  have hX : RdL w (.agg #[.int .i64 x.q, .slice A1 x.ls.length c1, .int .i64 x.k, .slice A3 x.cs.length c3]) x := ⟨_, _, rfl, ⟨A1, c1, rfl, h1, hc1⟩, ⟨A3, c3, rfl, h3, hc3⟩⟩
  have HC := Aside0.mk (fun W (hW : Below w.heap.size w W) => turned_calls_ x _ W 89 #[] indentF (hX.below hW) hz (hG.below hW) (enters_of Tryd.func89 (by kernel_rfl) rfl) (indent_turns_ W))
  obtain ⟨F1, F2, F3⟩ := two_boxes_ w (.cells #[.int .i64 x.q, .slice A1 x.ls.length c1, .int .i64 x.k, .slice A3 x.cs.length c3] 38) (.cells #[.int .i64 0, .slice none 0 0, .int .i64 0, .slice none 0 0] 38)
  clear h1 h3 hc1 hc3 hz hG hX
  generalize turnR indentF x = r at HC ⊢
  obtain ⟨y, ey⟩ := r
  go_enter Tryd.func42, Tryd.ntmps42
  go_upto_region 1 with (fail)
  generalize (w.alloc (.cells #[.int .i64 x.q, .slice A1 x.ls.length c1, .int .i64 x.k, .slice A3 x.cs.length c3] 38)).alloc (.cells #[.int .i64 0, .slice none 0 0, .int .i64 0, .slice none 0 0] 38) = W0 at F1 F2 F3 ⊢
  have a0 : W0.cell? ⟨w.heap.size, 0, none⟩ = some (.int .i64 x.q) := (blk_cell F1 0).trans rfl
  have a1 : W0.cell? ⟨w.heap.size, 1, none⟩ = some (.slice A1 x.ls.length c1) := (blk_cell F1 1).trans rfl
  have a2 : W0.cell? ⟨w.heap.size, 2, none⟩ = some (.int .i64 x.k) := (blk_cell F1 2).trans rfl
  have a3 : W0.cell? ⟨w.heap.size, 3, none⟩ = some (.slice A3 x.cs.length c3) := (blk_cell F1 3).trans rfl
  have H2 := Aside0.mk F2
  have H3 := Aside0.mk F3
  clear F1 F2 F3
  go_wp2_with (go_at_call 88; refine (HC.out _ H3.out).mono ?_; rintro e w1 hbk; obtain ⟨B1, d1, B3, d3, rfl, hw, hb⟩ := hbk.low (w := w); have HW := Aside0.mk hw; have HB1 := Aside0.mk hb; have fb := blk_below H2.out hb; have e0 := blk_frozen fb 0; have e1 := blk_frozen fb 1; have e2 := blk_frozen fb 2; have e3 := blk_frozen fb 3; have b0 : w1.cell? ⟨w.heap.size + 1, 0, none⟩ = some (.int .i64 0) := (blk_cell fb 0).trans rfl; have b1 : w1.cell? ⟨w.heap.size + 1, 1, none⟩ = some (.slice none 0 0) := (blk_cell fb 1).trans rfl; have b2 : w1.cell? ⟨w.heap.size + 1, 2, none⟩ = some (.int .i64 0) := (blk_cell fb 2).trans rfl; have b3 : w1.cell? ⟨w.heap.size + 1, 3, none⟩ = some (.slice none 0 0) := (blk_cell fb 3).trans rfl; have FB := Aside0.mk fb; clear hw hb fb)
  refine bodyPost_ret (results_ct rfl _ _ (w.heap.size + 1) 38 #[.int .i64 y.q, .slice B1 y.ls.length d1, .int .i64 y.k, .slice B3 y.cs.length d3] (0, 0) _ rfl (put4_blk FB.out) Tryd.underlying38 rfl (by kernel_rfl)) rfl ?_
  exact ⟨_, rfl, put4_WrL (HW.out.lower (below_size H3.out)) FB.out, put4_below (below_step H3.out HB1.out) (by omega)⟩
set_option maxRecDepth 100000 in
set_option maxHeartbeats 4000000 in
theorem outdent_calls_ (x : Ln) (v : Value) (w : World) (hx : RdL w v x) (hz : Sz x) (hG : Gl_ w) :
    Calls Tryd.prog 43 #[v] w fun e w' => Back_ w (turnR outdentF x) e w' := by
  have hu38 := Tryd.underlying38
  obtain ⟨_, _, rfl, ⟨A1, c1, rfl, h1, hc1⟩, ⟨A3, c3, rfl, h3, hc3⟩⟩ := hx
  have hX : RdL w (.agg #[.int .i64 x.q, .slice A1 x.ls.length c1, .int .i64 x.k, .slice A3 x.cs.length c3]) x := ⟨_, _, rfl, ⟨A1, c1, rfl, h1, hc1⟩, ⟨A3, c3, rfl, h3, hc3⟩⟩
  have HC := Aside0.mk (fun W (hW : Below w.heap.size w W) => turned_calls_ x _ W 91 #[] outdentF (hX.below hW) hz (hG.below hW) (enters_of Tryd.func91 (by kernel_rfl) rfl) (outdent_turns_ W))
  obtain ⟨F1, F2, F3⟩ := two_boxes_ w (.cells #[.int .i64 x.q, .slice A1 x.ls.length c1, .int .i64 x.k, .slice A3 x.cs.length c3] 38) (.cells #[.int .i64 0, .slice none 0 0, .int .i64 0, .slice none 0 0] 38)
  clear h1 h3 hc1 hc3 hz hG hX
  generalize turnR outdentF x = r at HC ⊢
  obtain ⟨y, ey⟩ := r
  go_enter Tryd.func43, Tryd.ntmps43
  go_upto_region 1 with (fail)
  generalize (w.alloc (.cells #[.int .i64 x.q, .slice A1 x.ls.length c1, .int .i64 x.k, .slice A3 x.cs.length c3] 38)).alloc (.cells #[.int .i64 0, .slice none 0 0, .int .i64 0, .slice none 0 0] 38) = W0 at F1 F2 F3 ⊢
  have a0 : W0.cell? ⟨w.heap.size, 0, none⟩ = some (.int .i64 x.q) := (blk_cell F1 0).trans rfl
  have a1 : W0.cell? ⟨w.heap.size, 1, none⟩ = some (.slice A1 x.ls.length c1) := (blk_cell F1 1).trans rfl
  have a2 : W0.cell? ⟨w.heap.size, 2, none⟩ = some (.int .i64 x.k) := (blk_cell F1 2).trans rfl
  have a3 : W0.cell? ⟨w.heap.size, 3, none⟩ = some (.slice A3 x.cs.length c3) := (blk_cell F1 3).trans rfl
  have H2 := Aside0.mk F2
  have H3 := Aside0.mk F3
  clear F1 F2 F3
  go_wp2_with (go_at_call 88; refine (HC.out _ H3.out).mono ?_; rintro e w1 hbk; obtain ⟨B1, d1, B3, d3, rfl, hw, hb⟩ := hbk.low (w := w); have HW := Aside0.mk hw; have HB1 := Aside0.mk hb; have fb := blk_below H2.out hb; have e0 := blk_frozen fb 0; have e1 := blk_frozen fb 1; have e2 := blk_frozen fb 2; have e3 := blk_frozen fb 3; have b0 : w1.cell? ⟨w.heap.size + 1, 0, none⟩ = some (.int .i64 0) := (blk_cell fb 0).trans rfl; have b1 : w1.cell? ⟨w.heap.size + 1, 1, none⟩ = some (.slice none 0 0) := (blk_cell fb 1).trans rfl; have b2 : w1.cell? ⟨w.heap.size + 1, 2, none⟩ = some (.int .i64 0) := (blk_cell fb 2).trans rfl; have b3 : w1.cell? ⟨w.heap.size + 1, 3, none⟩ = some (.slice none 0 0) := (blk_cell fb 3).trans rfl; have FB := Aside0.mk fb; clear hw hb fb)
  refine bodyPost_ret (results_ct rfl _ _ (w.heap.size + 1) 38 #[.int .i64 y.q, .slice B1 y.ls.length d1, .int .i64 y.k, .slice B3 y.cs.length d3] (0, 0) _ rfl (put4_blk FB.out) Tryd.underlying38 rfl (by kernel_rfl)) rfl ?_
  exact ⟨_, rfl, put4_WrL (HW.out.lower (below_size H3.out)) FB.out, put4_below (below_step H3.out HB1.out) (by omega)⟩
set_option maxRecDepth 100000 in
set_option maxHeartbeats 4000000 in
theorem free_calls_ (x : Ln) (v : Value) (w : World) (hx : RdL w v x) (hz : Sz x) (hG : Gl_ w) :
    Calls Tryd.prog 50 #[v] w fun e w' => Back_ w (turnR freeF x) e w' := by
  have hu38 := Tryd.underlying38
  obtain ⟨_, _, rfl, ⟨A1, c1, rfl, h1, hc1⟩, ⟨A3, c3, rfl, h3, hc3⟩⟩ := hx
  have hX : RdL w (.agg #[.int .i64 x.q, .slice A1 x.ls.length c1, .int .i64 x.k, .slice A3 x.cs.length c3]) x := ⟨_, _, rfl, ⟨A1, c1, rfl, h1, hc1⟩, ⟨A3, c3, rfl, h3, hc3⟩⟩
  have HC := Aside0.mk (fun W (hW : Below w.heap.size w W) => turned_calls_ x _ W 95 #[] freeF (hX.below hW) hz (hG.below hW) (enters_of Tryd.func95 (by kernel_rfl) rfl) (free_turns_ W))
  obtain ⟨F1, F2, F3⟩ := two_boxes_ w (.cells #[.int .i64 x.q, .slice A1 x.ls.length c1, .int .i64 x.k, .slice A3 x.cs.length c3] 38) (.cells #[.int .i64 0, .slice none 0 0, .int .i64 0, .slice none 0 0] 38)
  clear h1 h3 hc1 hc3 hz hG hX
  generalize turnR freeF x = r at HC ⊢
  obtain ⟨y, ey⟩ := r
  go_enter Tryd.func50, Tryd.ntmps50
  go_upto_region 1 with (fail)
  generalize (w.alloc (.cells #[.int .i64 x.q, .slice A1 x.ls.length c1, .int .i64 x.k, .slice A3 x.cs.length c3] 38)).alloc (.cells #[.int .i64 0, .slice none 0 0, .int .i64 0, .slice none 0 0] 38) = W0 at F1 F2 F3 ⊢
  have a0 : W0.cell? ⟨w.heap.size, 0, none⟩ = some (.int .i64 x.q) := (blk_cell F1 0).trans rfl
  have a1 : W0.cell? ⟨w.heap.size, 1, none⟩ = some (.slice A1 x.ls.length c1) := (blk_cell F1 1).trans rfl
  have a2 : W0.cell? ⟨w.heap.size, 2, none⟩ = some (.int .i64 x.k) := (blk_cell F1 2).trans rfl
  have a3 : W0.cell? ⟨w.heap.size, 3, none⟩ = some (.slice A3 x.cs.length c3) := (blk_cell F1 3).trans rfl
  have H2 := Aside0.mk F2
  have H3 := Aside0.mk F3
  clear F1 F2 F3
  go_wp2_with (go_at_call 88; refine (HC.out _ H3.out).mono ?_; rintro e w1 hbk; obtain ⟨B1, d1, B3, d3, rfl, hw, hb⟩ := hbk.low (w := w); have HW := Aside0.mk hw; have HB1 := Aside0.mk hb; have fb := blk_below H2.out hb; have e0 := blk_frozen fb 0; have e1 := blk_frozen fb 1; have e2 := blk_frozen fb 2; have e3 := blk_frozen fb 3; have b0 : w1.cell? ⟨w.heap.size + 1, 0, none⟩ = some (.int .i64 0) := (blk_cell fb 0).trans rfl; have b1 : w1.cell? ⟨w.heap.size + 1, 1, none⟩ = some (.slice none 0 0) := (blk_cell fb 1).trans rfl; have b2 : w1.cell? ⟨w.heap.size + 1, 2, none⟩ = some (.int .i64 0) := (blk_cell fb 2).trans rfl; have b3 : w1.cell? ⟨w.heap.size + 1, 3, none⟩ = some (.slice none 0 0) := (blk_cell fb 3).trans rfl; have FB := Aside0.mk fb; clear hw hb fb)
  refine bodyPost_ret (results_ct rfl _ _ (w.heap.size + 1) 38 #[.int .i64 y.q, .slice B1 y.ls.length d1, .int .i64 y.k, .slice B3 y.cs.length d3] (0, 0) _ rfl (put4_blk FB.out) Tryd.underlying38 rfl (by kernel_rfl)) rfl ?_
  exact ⟨_, rfl, put4_WrL (HW.out.lower (below_size H3.out)) FB.out, put4_below (below_step H3.out HB1.out) (by omega)⟩
set_option maxRecDepth 100000 in
set_option maxHeartbeats 4000000 in
theorem list_calls_ (kind : Int) (x : Ln) (v : Value) (w : World) (hx : RdL w v x) (hz : Sz x) (hG : Gl_ w) :
    Calls Tryd.prog 46 #[v, .int .i64 kind] w fun e w' => Back_ w (listR kind x) e w' := by
  have hu38 := Tryd.underlying38
  obtain ⟨_, _, rfl, ⟨A1, c1, rfl, h1, hc1⟩, ⟨A3, c3, rfl, h3, hc3⟩⟩ := hx
  have hX : RdL w (.agg #[.int .i64 x.q, .slice A1 x.ls.length c1, .int .i64 x.k, .slice A3 x.cs.length c3]) x := ⟨_, _, rfl, ⟨A1, c1, rfl, h1, hc1⟩, ⟨A3, c3, rfl, h3, hc3⟩⟩
  have HC := Aside0.mk (fun W (hW : Below w.heap.size w W) (hk : W.cell? ⟨w.heap.size + 1, 0, none⟩ = some (.int .i64 kind)) => turned_calls_ x _ W 93 #[.pointer (some ⟨w.heap.size + 1, 0, none⟩)] (listF kind) (hX.below hW) hz (hG.below hW) (enters_of Tryd.func93 (by kernel_rfl) rfl) (list_turns_ W kind _ hk))
  obtain ⟨F1, F1', F2, F3⟩ := three_boxes_ w (.cells #[.int .i64 x.q, .slice A1 x.ls.length c1, .int .i64 x.k, .slice A3 x.cs.length c3] 38) (.cells #[.int .i64 kind] 3) (.cells #[.int .i64 0, .slice none 0 0, .int .i64 0, .slice none 0 0] 38)
  clear h1 h3 hc1 hc3 hz hG hX
  by_cases k0_ : kind = 0
  · have t0 : (kind != 0) = false := bne_eq_false_iff_eq.mpr k0_
    have HR := Aside0.mk (show listR kind x = turnR (listF kind) x by unfold listR; rw [if_pos (.inl k0_)])
    clear k0_
    rw [HR.out]
    generalize turnR (listF kind) x = r at HC ⊢
    obtain ⟨y, ey⟩ := r
    go_enter Tryd.func46, Tryd.ntmps46
    go_upto_region 1 with (fail)
    generalize ((w.alloc (.cells #[.int .i64 x.q, .slice A1 x.ls.length c1, .int .i64 x.k, .slice A3 x.cs.length c3] 38)).alloc (.cells #[.int .i64 kind] 3)).alloc (.cells #[.int .i64 0, .slice none 0 0, .int .i64 0, .slice none 0 0] 38) = W0 at F1 F1' F2 F3 ⊢
    have a0 : W0.cell? ⟨w.heap.size, 0, none⟩ = some (.int .i64 x.q) := (blk_cell F1 0).trans rfl
    have a1 : W0.cell? ⟨w.heap.size, 1, none⟩ = some (.slice A1 x.ls.length c1) := (blk_cell F1 1).trans rfl
    have a2 : W0.cell? ⟨w.heap.size, 2, none⟩ = some (.int .i64 x.k) := (blk_cell F1 2).trans rfl
    have a3 : W0.cell? ⟨w.heap.size, 3, none⟩ = some (.slice A3 x.cs.length c3) := (blk_cell F1 3).trans rfl
    have k0 : W0.cell? ⟨w.heap.size + 1, 0, none⟩ = some (.int .i64 kind) := (blk_cell F1' 0).trans rfl
    have H2 := Aside0.mk F2
    have H3 := Aside0.mk F3
    clear F1 F1' F2 F3
    go_wp2_with (go_at_call 88; refine (HC.out _ H3.out k0).mono ?_; rintro e w1 hbk; obtain ⟨B1, d1, B3, d3, rfl, hw, hb⟩ := hbk.low (w := w); have HW := Aside0.mk hw; have HB1 := Aside0.mk hb; have fb := blk_below H2.out hb; have e0 := blk_frozen fb 0; have e1 := blk_frozen fb 1; have e2 := blk_frozen fb 2; have e3 := blk_frozen fb 3; have b0 : w1.cell? ⟨w.heap.size + 2, 0, none⟩ = some (.int .i64 0) := (blk_cell fb 0).trans rfl; have b1 : w1.cell? ⟨w.heap.size + 2, 1, none⟩ = some (.slice none 0 0) := (blk_cell fb 1).trans rfl; have b2 : w1.cell? ⟨w.heap.size + 2, 2, none⟩ = some (.int .i64 0) := (blk_cell fb 2).trans rfl; have b3 : w1.cell? ⟨w.heap.size + 2, 3, none⟩ = some (.slice none 0 0) := (blk_cell fb 3).trans rfl; have FB := Aside0.mk fb; clear hw hb fb)
    refine bodyPost_ret (results_ct rfl _ _ (w.heap.size + 2) 38 #[.int .i64 y.q, .slice B1 y.ls.length d1, .int .i64 y.k, .slice B3 y.cs.length d3] (0, 0) _ rfl (put4_blk FB.out) Tryd.underlying38 rfl (by kernel_rfl)) rfl ?_
    exact ⟨_, rfl, put4_WrL (HW.out.lower (below_size H3.out)) FB.out, put4_below (below_step H3.out HB1.out) (by omega)⟩
  have t0 : (kind != 0) = true := bne_iff_ne.mpr k0_
  by_cases k1_ : kind = 1
  · have t1 : (kind != 1) = false := bne_eq_false_iff_eq.mpr k1_
    have HR := Aside0.mk (show listR kind x = turnR (listF kind) x by unfold listR; rw [if_pos (.inr k1_)])
    clear k0_ k1_
    rw [HR.out]
    generalize turnR (listF kind) x = r at HC ⊢
    obtain ⟨y, ey⟩ := r
    go_enter Tryd.func46, Tryd.ntmps46
    go_upto_region 1 with (fail)
    generalize ((w.alloc (.cells #[.int .i64 x.q, .slice A1 x.ls.length c1, .int .i64 x.k, .slice A3 x.cs.length c3] 38)).alloc (.cells #[.int .i64 kind] 3)).alloc (.cells #[.int .i64 0, .slice none 0 0, .int .i64 0, .slice none 0 0] 38) = W0 at F1 F1' F2 F3 ⊢
    have a0 : W0.cell? ⟨w.heap.size, 0, none⟩ = some (.int .i64 x.q) := (blk_cell F1 0).trans rfl
    have a1 : W0.cell? ⟨w.heap.size, 1, none⟩ = some (.slice A1 x.ls.length c1) := (blk_cell F1 1).trans rfl
    have a2 : W0.cell? ⟨w.heap.size, 2, none⟩ = some (.int .i64 x.k) := (blk_cell F1 2).trans rfl
    have a3 : W0.cell? ⟨w.heap.size, 3, none⟩ = some (.slice A3 x.cs.length c3) := (blk_cell F1 3).trans rfl
    have k0 : W0.cell? ⟨w.heap.size + 1, 0, none⟩ = some (.int .i64 kind) := (blk_cell F1' 0).trans rfl
    have H2 := Aside0.mk F2
    have H3 := Aside0.mk F3
    clear F1 F1' F2 F3
    go_wp2_with (go_at_call 88; refine (HC.out _ H3.out k0).mono ?_; rintro e w1 hbk; obtain ⟨B1, d1, B3, d3, rfl, hw, hb⟩ := hbk.low (w := w); have HW := Aside0.mk hw; have HB1 := Aside0.mk hb; have fb := blk_below H2.out hb; have e0 := blk_frozen fb 0; have e1 := blk_frozen fb 1; have e2 := blk_frozen fb 2; have e3 := blk_frozen fb 3; have b0 : w1.cell? ⟨w.heap.size + 2, 0, none⟩ = some (.int .i64 0) := (blk_cell fb 0).trans rfl; have b1 : w1.cell? ⟨w.heap.size + 2, 1, none⟩ = some (.slice none 0 0) := (blk_cell fb 1).trans rfl; have b2 : w1.cell? ⟨w.heap.size + 2, 2, none⟩ = some (.int .i64 0) := (blk_cell fb 2).trans rfl; have b3 : w1.cell? ⟨w.heap.size + 2, 3, none⟩ = some (.slice none 0 0) := (blk_cell fb 3).trans rfl; have FB := Aside0.mk fb; clear hw hb fb)
    refine bodyPost_ret (results_ct rfl _ _ (w.heap.size + 2) 38 #[.int .i64 y.q, .slice B1 y.ls.length d1, .int .i64 y.k, .slice B3 y.cs.length d3] (0, 0) _ rfl (put4_blk FB.out) Tryd.underlying38 rfl (by kernel_rfl)) rfl ?_
    exact ⟨_, rfl, put4_WrL (HW.out.lower (below_size H3.out)) FB.out, put4_below (below_step H3.out HB1.out) (by omega)⟩
  have t1 : (kind != 1) = true := bne_iff_ne.mpr k1_
  have HR := Aside0.mk (show listR kind x = (zeroLn, 1) by unfold listR; rw [if_neg (by omega)])
  clear k0_ k1_
  go_enter Tryd.func46, Tryd.ntmps46
  go_upto_region 1 with (fail)
  generalize ((w.alloc (.cells #[.int .i64 x.q, .slice A1 x.ls.length c1, .int .i64 x.k, .slice A3 x.cs.length c3] 38)).alloc (.cells #[.int .i64 kind] 3)).alloc (.cells #[.int .i64 0, .slice none 0 0, .int .i64 0, .slice none 0 0] 38) = W0 at F1 F1' F2 F3 ⊢
  have a0 : W0.cell? ⟨w.heap.size, 0, none⟩ = some (.int .i64 x.q) := (blk_cell F1 0).trans rfl
  have a1 : W0.cell? ⟨w.heap.size, 1, none⟩ = some (.slice A1 x.ls.length c1) := (blk_cell F1 1).trans rfl
  have a2 : W0.cell? ⟨w.heap.size, 2, none⟩ = some (.int .i64 x.k) := (blk_cell F1 2).trans rfl
  have a3 : W0.cell? ⟨w.heap.size, 3, none⟩ = some (.slice A3 x.cs.length c3) := (blk_cell F1 3).trans rfl
  have k0 : W0.cell? ⟨w.heap.size + 1, 0, none⟩ = some (.int .i64 kind) := (blk_cell F1' 0).trans rfl
  have H2 := Aside0.mk F2
  have H3 := Aside0.mk F3
  have e0 := blk_frozen F2 0
  have e1 := blk_frozen F2 1
  have e2 := blk_frozen F2 2
  have e3 := blk_frozen F2 3
  have b0 : W0.cell? ⟨w.heap.size + 2, 0, none⟩ = some (.int .i64 0) := (blk_cell F2 0).trans rfl
  have b1 : W0.cell? ⟨w.heap.size + 2, 1, none⟩ = some (.slice none 0 0) := (blk_cell F2 1).trans rfl
  have b2 : W0.cell? ⟨w.heap.size + 2, 2, none⟩ = some (.int .i64 0) := (blk_cell F2 2).trans rfl
  have b3 : W0.cell? ⟨w.heap.size + 2, 3, none⟩ = some (.slice none 0 0) := (blk_cell F2 3).trans rfl
  clear F1 F1' F2 F3 HC
  go_wp2
  refine bodyPost_ret (results_ct rfl _ _ (w.heap.size + 2) 38 #[.int .i64 0, .slice none 0 0, .int .i64 0, .slice none 0 0] (0, 0) _ rfl (put4_blk H2.out) Tryd.underlying38 rfl (by kernel_rfl)) rfl ?_
  exact ⟨_, by rw [HR.out]; rfl, by rw [HR.out]; exact WrL_zero _ _, put4_below H3.out (by omega)⟩
set_option maxRecDepth 100000 in
set_option maxHeartbeats 4000000 in
theorem format_calls_ (kind : Int) (x : Ln) (v : Value) (w : World) (hx : RdL w v x) (hz : Sz x) (hG : Gl_ w) :
    Calls Tryd.prog 48 #[v, .int .i64 kind] w fun e w' => Back_ w (formatR kind x) e w' := by
  have hu38 := Tryd.underlying38
  obtain ⟨_, _, rfl, ⟨A1, c1, rfl, h1, hc1⟩, ⟨A3, c3, rfl, h3, hc3⟩⟩ := hx
  have hX : RdL w (.agg #[.int .i64 x.q, .slice A1 x.ls.length c1, .int .i64 x.k, .slice A3 x.cs.length c3]) x := ⟨_, _, rfl, ⟨A1, c1, rfl, h1, hc1⟩, ⟨A3, c3, rfl, h3, hc3⟩⟩
  have HC := Aside0.mk (fun W (hW : Below w.heap.size w W) (hk : W.cell? ⟨w.heap.size + 1, 0, none⟩ = some (.int .i64 kind)) => turned_calls_ x _ W 94 #[.pointer (some ⟨w.heap.size + 1, 0, none⟩)] (formatF kind) (hX.below hW) hz (hG.below hW) (enters_of Tryd.func94 (by kernel_rfl) rfl) (format_turns_ W kind _ hk))
  obtain ⟨F1, F1', F2, F3⟩ := three_boxes_ w (.cells #[.int .i64 x.q, .slice A1 x.ls.length c1, .int .i64 x.k, .slice A3 x.cs.length c3] 38) (.cells #[.int .i64 kind] 3) (.cells #[.int .i64 0, .slice none 0 0, .int .i64 0, .slice none 0 0] 38)
  clear h1 h3 hc1 hc3 hz hG hX
  by_cases k0_ : kind < 0
  · have t0 : decide (kind < 0) = true := decide_eq_true k0_
    have HR := Aside0.mk (show formatR kind x = (zeroLn, 1) by unfold formatR; rw [if_neg (by omega)])
    clear k0_
    go_enter Tryd.func48, Tryd.ntmps48
    go_upto_region 1 with (fail)
    generalize ((w.alloc (.cells #[.int .i64 x.q, .slice A1 x.ls.length c1, .int .i64 x.k, .slice A3 x.cs.length c3] 38)).alloc (.cells #[.int .i64 kind] 3)).alloc (.cells #[.int .i64 0, .slice none 0 0, .int .i64 0, .slice none 0 0] 38) = W0 at F1 F1' F2 F3 ⊢
    have a0 : W0.cell? ⟨w.heap.size, 0, none⟩ = some (.int .i64 x.q) := (blk_cell F1 0).trans rfl
    have a1 : W0.cell? ⟨w.heap.size, 1, none⟩ = some (.slice A1 x.ls.length c1) := (blk_cell F1 1).trans rfl
    have a2 : W0.cell? ⟨w.heap.size, 2, none⟩ = some (.int .i64 x.k) := (blk_cell F1 2).trans rfl
    have a3 : W0.cell? ⟨w.heap.size, 3, none⟩ = some (.slice A3 x.cs.length c3) := (blk_cell F1 3).trans rfl
    have k0 : W0.cell? ⟨w.heap.size + 1, 0, none⟩ = some (.int .i64 kind) := (blk_cell F1' 0).trans rfl
    have H2 := Aside0.mk F2
    have H3 := Aside0.mk F3
    have e0 := blk_frozen F2 0
    have e1 := blk_frozen F2 1
    have e2 := blk_frozen F2 2
    have e3 := blk_frozen F2 3
    have b0 : W0.cell? ⟨w.heap.size + 2, 0, none⟩ = some (.int .i64 0) := (blk_cell F2 0).trans rfl
    have b1 : W0.cell? ⟨w.heap.size + 2, 1, none⟩ = some (.slice none 0 0) := (blk_cell F2 1).trans rfl
    have b2 : W0.cell? ⟨w.heap.size + 2, 2, none⟩ = some (.int .i64 0) := (blk_cell F2 2).trans rfl
    have b3 : W0.cell? ⟨w.heap.size + 2, 3, none⟩ = some (.slice none 0 0) := (blk_cell F2 3).trans rfl
    clear F1 F1' F2 F3 HC
    go_wp2
    refine bodyPost_ret (results_ct rfl _ _ (w.heap.size + 2) 38 #[.int .i64 0, .slice none 0 0, .int .i64 0, .slice none 0 0] (0, 0) _ rfl (put4_blk H2.out) Tryd.underlying38 rfl (by kernel_rfl)) rfl ?_
    exact ⟨_, by rw [HR.out]; rfl, by rw [HR.out]; exact WrL_zero _ _, put4_below H3.out (by omega)⟩
  have t0 : decide (kind < 0) = false := decide_eq_false k0_
  by_cases k1_ : 3 < kind
  · have t1 : decide (3 < kind) = true := decide_eq_true k1_
    have HR := Aside0.mk (show formatR kind x = (zeroLn, 1) by unfold formatR; rw [if_neg (by omega)])
    clear k0_ k1_
    go_enter Tryd.func48, Tryd.ntmps48
    go_upto_region 1 with (fail)
    generalize ((w.alloc (.cells #[.int .i64 x.q, .slice A1 x.ls.length c1, .int .i64 x.k, .slice A3 x.cs.length c3] 38)).alloc (.cells #[.int .i64 kind] 3)).alloc (.cells #[.int .i64 0, .slice none 0 0, .int .i64 0, .slice none 0 0] 38) = W0 at F1 F1' F2 F3 ⊢
    have a0 : W0.cell? ⟨w.heap.size, 0, none⟩ = some (.int .i64 x.q) := (blk_cell F1 0).trans rfl
    have a1 : W0.cell? ⟨w.heap.size, 1, none⟩ = some (.slice A1 x.ls.length c1) := (blk_cell F1 1).trans rfl
    have a2 : W0.cell? ⟨w.heap.size, 2, none⟩ = some (.int .i64 x.k) := (blk_cell F1 2).trans rfl
    have a3 : W0.cell? ⟨w.heap.size, 3, none⟩ = some (.slice A3 x.cs.length c3) := (blk_cell F1 3).trans rfl
    have k0 : W0.cell? ⟨w.heap.size + 1, 0, none⟩ = some (.int .i64 kind) := (blk_cell F1' 0).trans rfl
    have H2 := Aside0.mk F2
    have H3 := Aside0.mk F3
    have e0 := blk_frozen F2 0
    have e1 := blk_frozen F2 1
    have e2 := blk_frozen F2 2
    have e3 := blk_frozen F2 3
    have b0 : W0.cell? ⟨w.heap.size + 2, 0, none⟩ = some (.int .i64 0) := (blk_cell F2 0).trans rfl
    have b1 : W0.cell? ⟨w.heap.size + 2, 1, none⟩ = some (.slice none 0 0) := (blk_cell F2 1).trans rfl
    have b2 : W0.cell? ⟨w.heap.size + 2, 2, none⟩ = some (.int .i64 0) := (blk_cell F2 2).trans rfl
    have b3 : W0.cell? ⟨w.heap.size + 2, 3, none⟩ = some (.slice none 0 0) := (blk_cell F2 3).trans rfl
    clear F1 F1' F2 F3 HC
    go_wp2
    refine bodyPost_ret (results_ct rfl _ _ (w.heap.size + 2) 38 #[.int .i64 0, .slice none 0 0, .int .i64 0, .slice none 0 0] (0, 0) _ rfl (put4_blk H2.out) Tryd.underlying38 rfl (by kernel_rfl)) rfl ?_
    exact ⟨_, by rw [HR.out]; rfl, by rw [HR.out]; exact WrL_zero _ _, put4_below H3.out (by omega)⟩
  have t1 : decide (3 < kind) = false := decide_eq_false k1_
  have HR := Aside0.mk (show formatR kind x = turnR (formatF kind) x by unfold formatR; rw [if_pos (by omega)])
  clear k0_ k1_
  rw [HR.out]
  generalize turnR (formatF kind) x = r at HC ⊢
  obtain ⟨y, ey⟩ := r
  go_enter Tryd.func48, Tryd.ntmps48
  go_upto_region 1 with (fail)
  generalize ((w.alloc (.cells #[.int .i64 x.q, .slice A1 x.ls.length c1, .int .i64 x.k, .slice A3 x.cs.length c3] 38)).alloc (.cells #[.int .i64 kind] 3)).alloc (.cells #[.int .i64 0, .slice none 0 0, .int .i64 0, .slice none 0 0] 38) = W0 at F1 F1' F2 F3 ⊢
  have a0 : W0.cell? ⟨w.heap.size, 0, none⟩ = some (.int .i64 x.q) := (blk_cell F1 0).trans rfl
  have a1 : W0.cell? ⟨w.heap.size, 1, none⟩ = some (.slice A1 x.ls.length c1) := (blk_cell F1 1).trans rfl
  have a2 : W0.cell? ⟨w.heap.size, 2, none⟩ = some (.int .i64 x.k) := (blk_cell F1 2).trans rfl
  have a3 : W0.cell? ⟨w.heap.size, 3, none⟩ = some (.slice A3 x.cs.length c3) := (blk_cell F1 3).trans rfl
  have k0 : W0.cell? ⟨w.heap.size + 1, 0, none⟩ = some (.int .i64 kind) := (blk_cell F1' 0).trans rfl
  have H2 := Aside0.mk F2
  have H3 := Aside0.mk F3
  clear F1 F1' F2 F3
  go_wp2_with (go_at_call 88; refine (HC.out _ H3.out k0).mono ?_; rintro e w1 hbk; obtain ⟨B1, d1, B3, d3, rfl, hw, hb⟩ := hbk.low (w := w); have HW := Aside0.mk hw; have HB1 := Aside0.mk hb; have fb := blk_below H2.out hb; have e0 := blk_frozen fb 0; have e1 := blk_frozen fb 1; have e2 := blk_frozen fb 2; have e3 := blk_frozen fb 3; have b0 : w1.cell? ⟨w.heap.size + 2, 0, none⟩ = some (.int .i64 0) := (blk_cell fb 0).trans rfl; have b1 : w1.cell? ⟨w.heap.size + 2, 1, none⟩ = some (.slice none 0 0) := (blk_cell fb 1).trans rfl; have b2 : w1.cell? ⟨w.heap.size + 2, 2, none⟩ = some (.int .i64 0) := (blk_cell fb 2).trans rfl; have b3 : w1.cell? ⟨w.heap.size + 2, 3, none⟩ = some (.slice none 0 0) := (blk_cell fb 3).trans rfl; have FB := Aside0.mk fb; clear hw hb fb)
  refine bodyPost_ret (results_ct rfl _ _ (w.heap.size + 2) 38 #[.int .i64 y.q, .slice B1 y.ls.length d1, .int .i64 y.k, .slice B3 y.cs.length d3] (0, 0) _ rfl (put4_blk FB.out) Tryd.underlying38 rfl (by kernel_rfl)) rfl ?_
  exact ⟨_, rfl, put4_WrL (HW.out.lower (below_size H3.out)) FB.out, put4_below (below_step H3.out HB1.out) (by omega)⟩
end Go.Proofs.YtgdpknmffohhaaaDoor.Pl

namespace Go.Proofs.YtgdpknmffohhaaaDoor.Pl
open Go.RowKit Go.Proofs.YtgdpknmffohhaaaDoorW.PrintWords Go.Proofs.YtgdpknmffohhaaaDoorW.PrintLast Go.Proofs.YtgdpknmffohhaaaDoorW.PrintMore
attribute [local go_sem] max2_int min2_int max_two min_two max_three min_three max_four min_four   -- for this text's walks alone
set_option linter.unusedVariables false
set_option linter.unusedSimpArgs false

theorem eqA71 (d : Nat) (w : World) (x0 y0 : Int) (x1 y1 : Int) (x2 y2 : ByteArray) :
    (Op.equalIn (d + 2) 71 (.agg #[.int .i32 x0, .int .i64 x1, .string x2]) (.agg #[.int .i32 y0, .int .i64 y1, .string y2])).run Tryd.prog w = .ok (x0 == y0 && (x1 == y1 && (x2.toList == y2.toList))) w := by
  refine eqA_of Tryd.underlying71 (by kernel_rfl) ?_
  refine eqf_cons (by rfl) (by go_simp; rfl) (by go_simp; rfl) (by go_simp) ?_
  refine eqf_cons (by rfl) (by go_simp; rfl) (by go_simp; rfl) (by go_simp) ?_
  exact eqf_last (by rfl) (by go_simp; rfl) (by go_simp; rfl) (by go_simp)
end Go.Proofs.YtgdpknmffohhaaaDoor.Pl

namespace Go.Proofs.YtgdpknmffohhaaaDoor.Pl
open Go.RowKit Go.Proofs.YtgdpknmffohhaaaDoorW.PrintWords Go.Proofs.YtgdpknmffohhaaaDoorW.PrintLast Go.Proofs.YtgdpknmffohhaaaDoorW.PrintMore
attribute [local go_sem] max2_int min2_int max_two min_two max_three min_three max_four min_four   -- for this text's walks alone
set_option linter.unusedVariables false
set_option linter.unusedSimpArgs false

attribute [local go_sem high] eqA71
/-! ### slices_Equal_Cell: function 112 -/
end Go.Proofs.YtgdpknmffohhaaaDoor.Pl

namespace Go.Proofs.YtgdpknmffohhaaaDoor.Pl
open Go.RowKit Go.Proofs.YtgdpknmffohhaaaDoorW.PrintWords Go.Proofs.YtgdpknmffohhaaaDoorW.PrintLast Go.Proofs.YtgdpknmffohhaaaDoorW.PrintMore
attribute [local go_sem] max2_int min2_int max_two min_two max_three min_three max_four min_four   -- for this text's walks alone
set_option linter.unusedVariables false
set_option linter.unusedSimpArgs false

/-! ### cells_Same: function 65 -/
end Go.Proofs.YtgdpknmffohhaaaDoor.Pl

namespace Go.Proofs.YtgdpknmffohhaaaDoor.Pl
open Go.RowKit Go.Proofs.YtgdpknmffohhaaaDoorW.PrintWords Go.Proofs.YtgdpknmffohhaaaDoorW.PrintLast Go.Proofs.YtgdpknmffohhaaaDoorW.PrintMore
attribute [local go_sem] max2_int min2_int max_two min_two max_three min_three max_four min_four   -- for this text's walks alone
set_option linter.unusedVariables false
set_option linter.unusedSimpArgs false

/-! ### slices_Equal_int: function 76 -/
end Go.Proofs.YtgdpknmffohhaaaDoor.Pl

namespace Go.Proofs.YtgdpknmffohhaaaDoor.Pl
open Go.RowKit Go.Proofs.YtgdpknmffohhaaaDoorW.PrintWords Go.Proofs.YtgdpknmffohhaaaDoorW.PrintLast Go.Proofs.YtgdpknmffohhaaaDoorW.PrintMore
attribute [local go_sem] max2_int min2_int max_two min_two max_three min_three max_four min_four   -- for this text's walks alone
set_option linter.unusedVariables false
set_option linter.unusedSimpArgs false

/-! ### lines_Same: function 19 -/
end Go.Proofs.YtgdpknmffohhaaaDoor.Pl

namespace Go.Proofs.YtgdpknmffohhaaaDoor.Pl
open Go.RowKit Go.Proofs.YtgdpknmffohhaaaDoorW.PrintWords Go.Proofs.YtgdpknmffohhaaaDoorW.PrintLast Go.Proofs.YtgdpknmffohhaaaDoorW.PrintMore
attribute [local go_sem] max2_int min2_int max_two min_two max_three min_three max_four min_four   -- for this text's walks alone
set_option linter.unusedVariables false
set_option linter.unusedSimpArgs false

/-! ### quillworkref05_Same: function 36 -/
def quillworkref05_Same.l0 : Nat → List (S71) → List (S71) → Int → Option (Bool)
  | 0, _, _, _ => none
  | k + 1, x0, x1, x5 => if x5 < (x0.length : Int) then (if 0 ≤ x5 then (if x5 < (x1.length : Int) then (if ((rd_T71 x0 x5).f0) = ((rd_T71 x1 x5).f0) then (if ((rd_T71 x0 x5).f1) = ((rd_T71 x1 x5).f1) then (if ((rd_T71 x0 x5).f2).toList = ((rd_T71 x1 x5).f2).toList then (quillworkref05_Same.l0 k x0 x1 (wrap64 (x5 + 1))) else (some false)) else (some false)) else (some false)) else (none)) else (none)) else (some true)
def quillworkref05_Same.f (k : Nat) (l0 : List (S71)) (l1 : List (S71)) : Option (Bool) := if (l0.length : Int) = (l1.length : Int) then (quillworkref05_Same.l0 k l0 l1 0) else (some false)
set_option maxHeartbeats 8000000 in
set_option maxRecDepth 100000 in
theorem quillworkref05_Same.calls (k : Nat) (A0 : Option Addr) (c0 : Nat) (l0 : List (S71)) (A1 : Option Addr) (c1 : Nat) (l1 : List (S71)) (r : Bool) (w : World) (hr0 : Kd.C k71 w A0 l0.length l0) (hc0 : l0.length ≤ c0) (hr1 : Kd.C k71 w A1 l1.length l1) (hc1 : l1.length ≤ c1) (h : quillworkref05_Same.f k l0 l1 = some r) :
    Calls Tryd.prog 36 #[.slice A0 l0.length c0, .slice A1 l1.length c1] w fun e w' => e = .returned (.bool r) ∧ Drawn0 w w' := by
  have HR0 := Aside0.mk hr0
  have HC0 := Aside0.mk hc0
  clear hr0 hc0
  have HR1 := Aside0.mk hr1
  have HC1 := Aside0.mk hc1
  clear hr1 hc1
  have H : (if (l0.length : Int) = (l1.length : Int) then (quillworkref05_Same.l0 k l0 l1 0) else (some false)) = some r := h
  clear h
  by_cases c3 : (l0.length : Int) = (l1.length : Int)
  · rw [if_pos c3] at H
    have c3b0 : ((l0.length : Int) == (l1.length : Int)) = true := beq_iff_eq.mpr c3
    have c3b1 : ((l0.length : Int) != (l1.length : Int)) = false := bne_eq_false_iff_eq.mpr c3
    have c3b2 : (l0.length == l1.length) = true := by first | simpa using c3 | (simp at c3 ⊢; omega)
    clear c3
    have H' := Aside0.mk H
    clear H
    go_enter Tryd.func36, Tryd.ntmps36
    go_wp2
    repeat (go_quiet (fail); try go_wp2)
    go_loopg [5] k (fun kq v5 w' => ∃ (x5_1 : Int), v5 = .int .i64 x5_1 ∧ Aside0 (quillworkref05_Same.l0 kq l0 l1 x5_1 = some r) ∧ Aside0 (kq ≤ k) ∧ Drawn0 w w')
    case atStart => exact ⟨(0), (by first | rfl | (simp; done) | (simp [*]; done)), H', ⟨Nat.le_refl _⟩, by repeat (first | exact Drawn0.refl _ | apply Drawn0.step)⟩
    case round =>
      clear H'
      try clear c1
      try clear p2
      try clear c3
      try clear c3b0
      try clear c3b1
      try clear c3b2
      obtain ⟨x5_1, rfl, HA, HK1, ⟨m1, rfl⟩⟩ := hrel
      cases gk with
      | zero => exact absurd HA.out (by simp [quillworkref05_Same.l0])
      | succ k1 =>
        have H := HA.out
        clear HA
        simp only [quillworkref05_Same.l0] at H
        by_cases c4 : x5_1 < (l0.length : Int)
        · rw [if_pos c4] at H
          have c4b0 : decide (x5_1 < (l0.length : Int)) = true := decide_eq_true c4
          clear c4
          by_cases c5 : 0 ≤ x5_1
          · rw [if_pos c5] at H
            have c5b0 : decide (0 ≤ x5_1) = true := decide_eq_true c5
            clear c5
            by_cases c6 : x5_1 < (l1.length : Int)
            · rw [if_pos c6] at H
              have c6b0 : decide (x5_1 < (l1.length : Int)) = true := decide_eq_true c6
              clear c6
              by_cases c7 : ((rd_T71 l0 x5_1).f0) = ((rd_T71 l1 x5_1).f0)
              · rw [if_pos c7] at H
                have c7b0 : (((rd_T71 l0 x5_1).f0) == ((rd_T71 l1 x5_1).f0)) = true := beq_iff_eq.mpr c7
                have c7b1 : (((rd_T71 l0 x5_1).f0) != ((rd_T71 l1 x5_1).f0)) = false := bne_eq_false_iff_eq.mpr c7
                clear c7
                by_cases c8 : ((rd_T71 l0 x5_1).f1) = ((rd_T71 l1 x5_1).f1)
                · rw [if_pos c8] at H
                  have c8b0 : (((rd_T71 l0 x5_1).f1) == ((rd_T71 l1 x5_1).f1)) = true := beq_iff_eq.mpr c8
                  have c8b1 : (((rd_T71 l0 x5_1).f1) != ((rd_T71 l1 x5_1).f1)) = false := bne_eq_false_iff_eq.mpr c8
                  clear c8
                  by_cases c9 : ((rd_T71 l0 x5_1).f2).toList = ((rd_T71 l1 x5_1).f2).toList
                  · rw [if_pos c9] at H
                    have c9b0 : (((rd_T71 l0 x5_1).f2).toList == ((rd_T71 l1 x5_1).f2).toList) = true := beq_iff_eq.mpr c9
                    have c9b1 : (((rd_T71 l0 x5_1).f2).toList != ((rd_T71 l1 x5_1).f2).toList) = false := bne_eq_false_iff_eq.mpr c9
                    clear c9
                    have H' := Aside0.mk H
                    clear H
                    have p187 : 0 ≤ (x5_1 : Int) := of_decide_eq_true (by first | (with_reducible assumption) | assumption)
                    have q187 : x5_1 < (l0.length : Int) := of_decide_eq_true (by first | (with_reducible assumption) | assumption)
                    obtain ⟨ad187, e187, hx187_0, hx187_1, hx187_2⟩ := at_T71 HR0.out x5_1 p187 q187
                    cases e187
                    replace p187 := eq_true p187
                    replace q187 := eq_true q187
                    have p188 : 0 ≤ (x5_1 : Int) := of_decide_eq_true (by first | (with_reducible assumption) | assumption)
                    have q188 : x5_1 < (l1.length : Int) := of_decide_eq_true (by first | (with_reducible assumption) | assumption)
                    obtain ⟨ad188, e188, hx188_0, hx188_1, hx188_2⟩ := at_T71 HR1.out x5_1 p188 q188
                    cases e188
                    replace p188 := eq_true p188
                    replace q188 := eq_true q188
                    have p189 : 0 ≤ (x5_1 : Int) := of_decide_eq_true (by first | (with_reducible assumption) | assumption)
                    have q189 : x5_1 < (l0.length : Int) := of_decide_eq_true (by first | (with_reducible assumption) | assumption)
                    obtain ⟨ad189, e189, hx189_0, hx189_1, hx189_2⟩ := at_T71 HR0.out x5_1 p189 q189
                    obtain rfl : ad187 = ad189 := (by injection e189)
                    replace p189 := eq_true p189
                    replace q189 := eq_true q189
                    have p190 : 0 ≤ (x5_1 : Int) := of_decide_eq_true (by first | (with_reducible assumption) | assumption)
                    have q190 : x5_1 < (l1.length : Int) := of_decide_eq_true (by first | (with_reducible assumption) | assumption)
                    obtain ⟨ad190, e190, hx190_0, hx190_1, hx190_2⟩ := at_T71 HR1.out x5_1 p190 q190
                    obtain rfl : ad188 = ad190 := (by injection e190)
                    replace p190 := eq_true p190
                    replace q190 := eq_true q190
                    have p191 : 0 ≤ (x5_1 : Int) := of_decide_eq_true (by first | (with_reducible assumption) | assumption)
                    have q191 : x5_1 < (l0.length : Int) := of_decide_eq_true (by first | (with_reducible assumption) | assumption)
                    obtain ⟨ad191, e191, hx191_0, hx191_1, hx191_2⟩ := at_T71 HR0.out x5_1 p191 q191
                    obtain rfl : ad187 = ad191 := (by injection e191)
                    replace p191 := eq_true p191
                    replace q191 := eq_true q191
                    have p192 : 0 ≤ (x5_1 : Int) := of_decide_eq_true (by first | (with_reducible assumption) | assumption)
                    have q192 : x5_1 < (l1.length : Int) := of_decide_eq_true (by first | (with_reducible assumption) | assumption)
                    obtain ⟨ad192, e192, hx192_0, hx192_1, hx192_2⟩ := at_T71 HR1.out x5_1 p192 q192
                    obtain rfl : ad188 = ad192 := (by injection e192)
                    replace p192 := eq_true p192
                    replace q192 := eq_true q192
                    go_wp2
                    repeat (go_quiet (fail); try go_wp2)
                    go_roundg k1
                    case measure => have := HK1.out; omega
                    case rel => exact ⟨(wrap64 (x5_1 + 1)), (by first | rfl | (simp; done) | (simp [*]; done)), H', ⟨by have := HK1.out; omega⟩, by repeat (first | exact Drawn0.refl _ | apply Drawn0.step)⟩
                  · rw [if_neg c9] at H
                    have c9b0 : (((rd_T71 l0 x5_1).f2).toList == ((rd_T71 l1 x5_1).f2).toList) = false := beq_eq_false_iff_ne.mpr c9
                    have c9b1 : (((rd_T71 l0 x5_1).f2).toList != ((rd_T71 l1 x5_1).f2).toList) = true := bne_iff_ne.mpr c9
                    obtain rfl := Option.some.inj H
                    have p187 : 0 ≤ (x5_1 : Int) := of_decide_eq_true (by first | (with_reducible assumption) | assumption)
                    have q187 : x5_1 < (l0.length : Int) := of_decide_eq_true (by first | (with_reducible assumption) | assumption)
                    obtain ⟨ad187, e187, hx187_0, hx187_1, hx187_2⟩ := at_T71 HR0.out x5_1 p187 q187
                    cases e187
                    replace p187 := eq_true p187
                    replace q187 := eq_true q187
                    have p188 : 0 ≤ (x5_1 : Int) := of_decide_eq_true (by first | (with_reducible assumption) | assumption)
                    have q188 : x5_1 < (l1.length : Int) := of_decide_eq_true (by first | (with_reducible assumption) | assumption)
                    obtain ⟨ad188, e188, hx188_0, hx188_1, hx188_2⟩ := at_T71 HR1.out x5_1 p188 q188
                    cases e188
                    replace p188 := eq_true p188
                    replace q188 := eq_true q188
                    have p189 : 0 ≤ (x5_1 : Int) := of_decide_eq_true (by first | (with_reducible assumption) | assumption)
                    have q189 : x5_1 < (l0.length : Int) := of_decide_eq_true (by first | (with_reducible assumption) | assumption)
                    obtain ⟨ad189, e189, hx189_0, hx189_1, hx189_2⟩ := at_T71 HR0.out x5_1 p189 q189
                    obtain rfl : ad187 = ad189 := (by injection e189)
                    replace p189 := eq_true p189
                    replace q189 := eq_true q189
                    have p190 : 0 ≤ (x5_1 : Int) := of_decide_eq_true (by first | (with_reducible assumption) | assumption)
                    have q190 : x5_1 < (l1.length : Int) := of_decide_eq_true (by first | (with_reducible assumption) | assumption)
                    obtain ⟨ad190, e190, hx190_0, hx190_1, hx190_2⟩ := at_T71 HR1.out x5_1 p190 q190
                    obtain rfl : ad188 = ad190 := (by injection e190)
                    replace p190 := eq_true p190
                    replace q190 := eq_true q190
                    have p191 : 0 ≤ (x5_1 : Int) := of_decide_eq_true (by first | (with_reducible assumption) | assumption)
                    have q191 : x5_1 < (l0.length : Int) := of_decide_eq_true (by first | (with_reducible assumption) | assumption)
                    obtain ⟨ad191, e191, hx191_0, hx191_1, hx191_2⟩ := at_T71 HR0.out x5_1 p191 q191
                    obtain rfl : ad187 = ad191 := (by injection e191)
                    replace p191 := eq_true p191
                    replace q191 := eq_true q191
                    have p192 : 0 ≤ (x5_1 : Int) := of_decide_eq_true (by first | (with_reducible assumption) | assumption)
                    have q192 : x5_1 < (l1.length : Int) := of_decide_eq_true (by first | (with_reducible assumption) | assumption)
                    obtain ⟨ad192, e192, hx192_0, hx192_1, hx192_2⟩ := at_T71 HR1.out x5_1 p192 q192
                    obtain rfl : ad188 = ad192 := (by injection e192)
                    replace p192 := eq_true p192
                    replace q192 := eq_true q192
                    go_wp2
                    repeat (go_quiet (fail); try go_wp2)
                    go_ret
                    exact ⟨by first | rfl | (simp; done) | (simp [*]; done), by repeat (first | exact Drawn0.refl _ | apply Drawn0.step)⟩
                · rw [if_neg c8] at H
                  have c8b0 : (((rd_T71 l0 x5_1).f1) == ((rd_T71 l1 x5_1).f1)) = false := beq_eq_false_iff_ne.mpr c8
                  have c8b1 : (((rd_T71 l0 x5_1).f1) != ((rd_T71 l1 x5_1).f1)) = true := bne_iff_ne.mpr c8
                  obtain rfl := Option.some.inj H
                  have p187 : 0 ≤ (x5_1 : Int) := of_decide_eq_true (by first | (with_reducible assumption) | assumption)
                  have q187 : x5_1 < (l0.length : Int) := of_decide_eq_true (by first | (with_reducible assumption) | assumption)
                  obtain ⟨ad187, e187, hx187_0, hx187_1, hx187_2⟩ := at_T71 HR0.out x5_1 p187 q187
                  cases e187
                  replace p187 := eq_true p187
                  replace q187 := eq_true q187
                  have p188 : 0 ≤ (x5_1 : Int) := of_decide_eq_true (by first | (with_reducible assumption) | assumption)
                  have q188 : x5_1 < (l1.length : Int) := of_decide_eq_true (by first | (with_reducible assumption) | assumption)
                  obtain ⟨ad188, e188, hx188_0, hx188_1, hx188_2⟩ := at_T71 HR1.out x5_1 p188 q188
                  cases e188
                  replace p188 := eq_true p188
                  replace q188 := eq_true q188
                  have p189 : 0 ≤ (x5_1 : Int) := of_decide_eq_true (by first | (with_reducible assumption) | assumption)
                  have q189 : x5_1 < (l0.length : Int) := of_decide_eq_true (by first | (with_reducible assumption) | assumption)
                  obtain ⟨ad189, e189, hx189_0, hx189_1, hx189_2⟩ := at_T71 HR0.out x5_1 p189 q189
                  obtain rfl : ad187 = ad189 := (by injection e189)
                  replace p189 := eq_true p189
                  replace q189 := eq_true q189
                  have p190 : 0 ≤ (x5_1 : Int) := of_decide_eq_true (by first | (with_reducible assumption) | assumption)
                  have q190 : x5_1 < (l1.length : Int) := of_decide_eq_true (by first | (with_reducible assumption) | assumption)
                  obtain ⟨ad190, e190, hx190_0, hx190_1, hx190_2⟩ := at_T71 HR1.out x5_1 p190 q190
                  obtain rfl : ad188 = ad190 := (by injection e190)
                  replace p190 := eq_true p190
                  replace q190 := eq_true q190
                  go_wp2
                  repeat (go_quiet (fail); try go_wp2)
                  go_ret
                  exact ⟨by first | rfl | (simp; done) | (simp [*]; done), by repeat (first | exact Drawn0.refl _ | apply Drawn0.step)⟩
              · rw [if_neg c7] at H
                have c7b0 : (((rd_T71 l0 x5_1).f0) == ((rd_T71 l1 x5_1).f0)) = false := beq_eq_false_iff_ne.mpr c7
                have c7b1 : (((rd_T71 l0 x5_1).f0) != ((rd_T71 l1 x5_1).f0)) = true := bne_iff_ne.mpr c7
                obtain rfl := Option.some.inj H
                have p187 : 0 ≤ (x5_1 : Int) := of_decide_eq_true (by first | (with_reducible assumption) | assumption)
                have q187 : x5_1 < (l0.length : Int) := of_decide_eq_true (by first | (with_reducible assumption) | assumption)
                obtain ⟨ad187, e187, hx187_0, hx187_1, hx187_2⟩ := at_T71 HR0.out x5_1 p187 q187
                cases e187
                replace p187 := eq_true p187
                replace q187 := eq_true q187
                have p188 : 0 ≤ (x5_1 : Int) := of_decide_eq_true (by first | (with_reducible assumption) | assumption)
                have q188 : x5_1 < (l1.length : Int) := of_decide_eq_true (by first | (with_reducible assumption) | assumption)
                obtain ⟨ad188, e188, hx188_0, hx188_1, hx188_2⟩ := at_T71 HR1.out x5_1 p188 q188
                cases e188
                replace p188 := eq_true p188
                replace q188 := eq_true q188
                go_wp2
                repeat (go_quiet (fail); try go_wp2)
                go_ret
                exact ⟨by first | rfl | (simp; done) | (simp [*]; done), by repeat (first | exact Drawn0.refl _ | apply Drawn0.step)⟩
            · rw [if_neg c6] at H
              exact absurd H (by simp)
          · rw [if_neg c5] at H
            exact absurd H (by simp)
        · rw [if_neg c4] at H
          have c4b0 : decide (x5_1 < (l0.length : Int)) = false := decide_eq_false c4
          clear c4
          obtain rfl := Option.some.inj H
          go_wp2
          repeat (go_quiet (fail); try go_wp2)
          go_ret
          exact ⟨by first | rfl | (simp; done) | (simp [*]; done), by repeat (first | exact Drawn0.refl _ | apply Drawn0.step)⟩
  · rw [if_neg c3] at H
    have c3b0 : ((l0.length : Int) == (l1.length : Int)) = false := beq_eq_false_iff_ne.mpr c3
    have c3b1 : ((l0.length : Int) != (l1.length : Int)) = true := bne_iff_ne.mpr c3
    have c3b2 : (l0.length == l1.length) = false := by first | simpa using c3 | (simp at c3 ⊢; omega)
    obtain rfl := Option.some.inj H
    go_enter Tryd.func36, Tryd.ntmps36
    go_wp2
    repeat (go_quiet (fail); try go_wp2)
    go_ret
    exact ⟨by first | rfl | (simp; done) | (simp [*]; done), by repeat (first | exact Drawn0.refl _ | apply Drawn0.step)⟩

end Go.Proofs.YtgdpknmffohhaaaDoor.Pl

/- Whether lines are the same; whether a line is long. -/
namespace Go.Proofs.YtgdpknmffohhaaaDoor.Pl
open Go.RowKit Go.Lib Go.Proofs.YtgdpknmffohhaaaDoorW.PrintWords Go.Proofs.YtgdpknmffohhaaaDoorW.PrintLast Go.Proofs.YtgdpknmffohhaaaDoorW.PrintMore
set_option linter.unusedVariables false
def cellEq (a b : S71) : Bool := (a.f0 == b.f0) && ((a.f1 == b.f1) && (a.f2.toList == b.f2.toList))
theorem cellEq_iff {a b : S71} : cellEq a b = true ↔ a = b := by
  unfold cellEq
  rw [Bool.and_eq_true, Bool.and_eq_true, beq_iff_eq, beq_iff_eq, beq_iff_eq]
  constructor
  · rintro ⟨h0, h1, h2⟩
    obtain ⟨a0, a1, a2⟩ := a
    obtain ⟨b0, b1, b2⟩ := b
    dsimp only at h0 h1 h2
    rw [ByteArray.toList_eq, ByteArray.toList_eq] at h2
    have h3 : a2 = b2 := by
      cases a2
      cases b2
      congr 1
      exact Array.toList_inj.1 h2
    rw [h0, h1, h3]
  · rintro rfl
    exact ⟨rfl, rfl, rfl⟩
def sameC : List S71 → List S71 → Bool
  | [], [] => true
  | a :: s, b :: t => cellEq a b && sameC s t
  | _, _ => false
theorem sameC_iff : ∀ {x y : List S71}, sameC x y = true ↔ x = y
  | [], [] => by simp [sameC]
  | a :: s, b :: t => by
    rw [sameC, Bool.and_eq_true, cellEq_iff, sameC_iff, List.cons.injEq]
  | [], b :: t => by simp [sameC]
  | a :: s, [] => by simp [sameC]
theorem sameC_len {x y : List S71} (h : x.length ≠ y.length) : sameC x y = false := by
  cases e : sameC x y with
  | false => rfl
  | true => exact absurd (congrArg List.length (sameC_iff.1 e)) h
def sameL (x y : Ln) : Bool := (x.q == y.q) && ((x.k == y.k) && ((x.ls == y.ls) && sameC x.cs y.cs))
theorem sameL_iff {x y : Ln} : sameL x y = true ↔ x = y := by
  unfold sameL
  rw [Bool.and_eq_true, Bool.and_eq_true, Bool.and_eq_true, beq_iff_eq, beq_iff_eq, beq_iff_eq, sameC_iff]
  constructor
  · rintro ⟨h0, h1, h2, h3⟩
    cases x
    cases y
    dsimp only at h0 h1 h2 h3
    rw [h0, h1, h2, h3]
  · rintro rfl
    exact ⟨rfl, rfl, rfl, rfl⟩
theorem w64s_ (n : Int) (h : -9223372036854775808 ≤ n ∧ n ≤ 9223372036854775807) : wrap64 n = n := by unfold wrap64; omega
theorem rdc_ {l : List S71} {i : Nat} (h : i < l.length) : rd_T71 l (i : Int) = l[i] := by
  unfold rd_T71
  rw [List.getD_eq_getElem?_getD, Int.toNat_natCast, List.getElem?_eq_getElem h]
  rfl
theorem rdi_ {l : List Int} {i : Nat} (h : i < l.length) : rd l (i : Int) = l[i] := by
  unfold rd
  rw [List.getD_eq_getElem?_getD, Int.toNat_natCast, List.getElem?_eq_getElem h]
  rfl
theorem eqR_loop_ (x y : List S71) (hl : x.length = y.length) (hx : x.length ≤ 1000000000) : ∀ (m i : Nat), x.length - i = m → i ≤ x.length → Ev (fun k => quillworkref05_Same.l0 k x y (i : Int)) (sameC (x.drop i) (y.drop i)) := by
  intro m
  induction m with
  | zero =>
    intro i hm hi
    refine Ev.step (f := fun _ => some _) (fun k => ?_) (Ev.now _)
    simp only [quillworkref05_Same.l0]
    rw [if_neg (by omega), List.drop_eq_nil_of_le (by omega), List.drop_eq_nil_of_le (by omega)]
    rfl
  | succ m ih =>
    intro i hm hi
    have e3 : wrap64 ((i : Int) + 1) = ((i + 1 : Nat) : Int) := by rw [w64s_ _ (by omega)]; omega
    have hd : sameC (x.drop i) (y.drop i) = (cellEq (x[i]'(by omega)) (y[i]'(by omega)) && sameC (x.drop (i + 1)) (y.drop (i + 1))) := by
      rw [List.drop_eq_getElem_cons (show i < x.length by omega), List.drop_eq_getElem_cons (show i < y.length by omega)]
      rfl
    rw [hd]
    have ex := rdc_ (l := x) (i := i) (by omega)
    have ey := rdc_ (l := y) (i := i) (by omega)
    generalize x[i]'(by omega) = a at ex ⊢
    generalize y[i]'(by omega) = b at ey ⊢
    by_cases h : a = b
    · rw [cellEq_iff.2 h, Bool.true_and]
      refine Ev.step (fun k => ?_) (ih (i + 1) (by omega) (by omega))
      simp only [quillworkref05_Same.l0]
      rw [if_pos (by omega), if_pos (by omega), if_pos (by omega), ex, ey, h, if_pos rfl, if_pos rfl, if_pos rfl, e3]
    · have hf : cellEq a b = false := by
        cases e : cellEq a b with
        | false => rfl
        | true => exact absurd (cellEq_iff.1 e) h
      rw [hf, Bool.false_and]
      refine Ev.step (f := fun _ => some _) (fun k => ?_) (Ev.now _)
      simp only [quillworkref05_Same.l0]
      rw [if_pos (by omega), if_pos (by omega), if_pos (by omega), ex, ey]
      unfold cellEq at hf
      by_cases h0 : a.f0 = b.f0
      · rw [if_pos h0]
        by_cases h1 : a.f1 = b.f1
        · rw [if_pos h1]
          rw [beq_iff_eq.mpr h0, beq_iff_eq.mpr h1, Bool.true_and, Bool.true_and, beq_eq_false_iff_ne] at hf
          rw [if_neg hf]
        · rw [if_neg h1]
      · rw [if_neg h0]
def hrefs (cs : List S71) : Nat := (cs.map fun c => c.f2.size).sum
def longL (x : Ln) : Bool := decide (20000 < x.cs.length) || (decide (1000 < x.ls.length) || decide (200000 < hrefs x.cs))
theorem hrefs_append (a b : List S71) : hrefs (a ++ b) = hrefs a + hrefs b := by unfold hrefs; rw [List.map_append, List.sum_append]
theorem hrefs_mem {cs : List S71} {c : S71} (h : c ∈ cs) : c.f2.size ≤ hrefs cs := by
  induction cs with
  | nil => cases h
  | cons a t ih =>
    rw [show a :: t = [a] ++ t from rfl, hrefs_append]
    rcases List.mem_cons.1 h with rfl | h
    · unfold hrefs; simp
    · have := ih h; omega
theorem hrefs_take (cs : List S71) (i : Nat) : hrefs (cs.take i) ≤ hrefs cs := by
  have := hrefs_append (cs.take i) (cs.drop i)
  rw [List.take_append_drop] at this
  omega
theorem hrefs_step {cs : List S71} {i : Nat} {c : S71} (h : cs[i]? = some c) : hrefs (cs.take (i + 1)) = hrefs (cs.take i) + c.f2.size := by
  rw [List.take_add_one, h, hrefs_append]
  unfold hrefs
  simp
theorem longL_Sz {x : Ln} (h : longL x = false) : Sz x := by
  unfold longL at h
  rw [Bool.or_eq_false_iff, Bool.or_eq_false_iff, decide_eq_false_iff_not, decide_eq_false_iff_not, decide_eq_false_iff_not] at h
  exact ⟨by omega, by omega, fun c hc => by have := hrefs_mem hc; omega⟩
set_option maxRecDepth 100000 in
set_option maxHeartbeats 4000000 in
theorem long06_calls_ (x : Ln) (v : Value) (w : World) (hx : RdL w v x) (hok : ∀ c ∈ x.cs, c.f2.size ≤ 140737488355328) :
    Calls Tryd.prog 24 #[v] w fun e w' => e = .returned (.bool (longL x)) ∧ Below w.heap.size w w' := by
  have hu38 := Tryd.underlying38
  have hu71 := Tryd.underlying71
  obtain ⟨_, _, rfl, ⟨A1, c1, rfl, h1, hc1⟩, ⟨A3, c3, rfl, h3, hc3⟩⟩ := hx
  have HK3 := Aside0.mk h3
  have F0 := heap_alloc_new w (.cells #[.int .i64 x.q, .slice A1 x.ls.length c1, .int .i64 x.k, .slice A3 x.cs.length c3] 38)
  have FB := below_alloc (Below.refl w.heap.size w) (.cells #[.int .i64 x.q, .slice A1 x.ls.length c1, .int .i64 x.k, .slice A3 x.cs.length c3] 38)
  have HOK := Aside0.mk hok
  clear h1 h3 hok
  by_cases k1 : 20000 < x.cs.length
  · have d1 : decide (20000 < (x.cs.length : Int)) = true := decide_eq_true (by omega)
    have HR := Aside0.mk (show longL x = true by unfold longL; rw [decide_eq_true k1]; rfl)
    clear k1 F0
    go_enter Tryd.func24, Tryd.ntmps24
    go_wp2
    go_ret
    exact ⟨by rw [HR.out]; rfl, FB⟩
  · have d1 : decide (20000 < (x.cs.length : Int)) = false := decide_eq_false (by omega)
    by_cases k2 : 1000 < x.ls.length
    · have d2 : decide (1000 < (x.ls.length : Int)) = true := decide_eq_true (by omega)
      have HR := Aside0.mk (show longL x = true by unfold longL; rw [decide_eq_true k2, Bool.true_or, Bool.or_true])
      clear k1 k2 F0
      go_enter Tryd.func24, Tryd.ntmps24
      go_wp2
      go_ret
      exact ⟨by rw [HR.out]; rfl, FB⟩
    · have d2 : decide (1000 < (x.ls.length : Int)) = false := decide_eq_false (by omega)
      have HL := Aside0.mk (show x.cs.length ≤ 20000 ∧ x.ls.length ≤ 1000 by omega)
      have hlen : x.cs.length ≤ 20000 := by omega
      have HR := Aside0.mk (show longL x = decide (200000 < hrefs x.cs) by unfold longL; rw [decide_eq_false k1, decide_eq_false k2]; rfl)
      clear k1 k2
      go_enter Tryd.func24, Tryd.ntmps24
      go_wp2
      generalize w.alloc (.cells #[.int .i64 x.q, .slice A1 x.ls.length c1, .int .i64 x.k, .slice A3 x.cs.length c3] 38) = W0 at F0 FB ⊢
      have c3' : W0.cell? ⟨w.heap.size, 3, none⟩ = some (.slice A3 x.cs.length c3) := (blk_cell F0 3).trans rfl
      have HFB := Aside0.mk FB
      clear F0 FB
      go_loopg [3, 4] (x.cs.length + 1) (fun g v3 v4 w' => ∃ (i n : Nat), v3 = .int .i64 (n : Int) ∧ v4 = .int .i64 (i : Int) ∧ w' = W0 ∧ i + g = x.cs.length + 1 ∧ i ≤ x.cs.length ∧ Aside0 (n = hrefs (x.cs.take i)))
      case atStart => exact ⟨0, 0, rfl, rfl, rfl, by omega, Nat.zero_le _, ⟨rfl⟩⟩
      case round =>
        obtain ⟨i, n, rfl, rfl, rfl, hg, hi, HI⟩ := hrel
        by_cases hlt : i < x.cs.length
        · have e1 : decide ((i : Int) < (x.cs.length : Int)) = true := decide_eq_true (by omega)
          by_cases hn2 : n ≤ 200000
          · have e2 : decide ((n : Int) ≤ 200000) = true := decide_eq_true (by omega)
            obtain ⟨ad, e, y0, y1, y2⟩ := at_T71 HK3.out (i : Int) (by omega) (by omega)
            cases e
            replace y2 := (HFB.out.cell (World.block_lt_of_cell? w _ y2)).trans y2
            clear y0 y1
            rw [Int.toNat_natCast] at y2
            have hm : rd_T71 x.cs (i : Int) ∈ x.cs := List.mem_of_getElem? (rd_at_ hlt)
            have hs := HOK.out _ hm
            have HA := Aside0.mk (rd_at_ (xs := x.cs) hlt)
            generalize rd_T71 x.cs (i : Int) = c at y2 hs HA
            clear hm
            obtain ⟨g', rfl⟩ : ∃ g', gk = g' + 1 := ⟨gk - 1, by omega⟩
            have w1 : IntKind.i64.wrap ((n : Int) + (c.f2.size : Int)) = ((n + c.f2.size : Nat) : Int) := by rw [i64_w]; unfold wrap64; omega
            have w2 : IntKind.i64.wrap ((i : Int) + 1) = ((i + 1 : Nat) : Int) := by rw [i64_w]; unfold wrap64; omega
            go_wp2
            go_roundg g'
            case measure => omega
            case rel => exact ⟨i + 1, n + c.f2.size, by first | rfl | (simp; done), by first | rfl | (simp; done), rfl, by omega, by omega, ⟨by rw [hrefs_step HA.out, ← HI.out]⟩⟩
          · have e2 : decide ((n : Int) ≤ 200000) = false := decide_eq_false (by omega)
            have e3 : decide (200000 < (n : Int)) = true := decide_eq_true (by omega)
            have HT := Aside0.mk (show longL x = true by rw [HR.out]; exact decide_eq_true (by have := hrefs_take x.cs i; have := HI.out; omega))
            clear hn2
            go_wp2
            go_ret
            exact ⟨by rw [HT.out]; rfl, HFB.out⟩
        · have e1 : decide ((i : Int) < (x.cs.length : Int)) = false := decide_eq_false (by omega)
          obtain rfl : i = x.cs.length := by omega
          by_cases hn2 : n ≤ 200000
          · have e3 : decide (200000 < (n : Int)) = false := decide_eq_false (by omega)
            have HT := Aside0.mk (show longL x = false by rw [HR.out]; exact decide_eq_false (by have := HI.out; rw [List.take_length] at this; omega))
            clear hn2
            go_wp2
            go_ret
            exact ⟨by rw [HT.out]; rfl, HFB.out⟩
          · have e3 : decide (200000 < (n : Int)) = true := decide_eq_true (by omega)
            have HT := Aside0.mk (show longL x = true by rw [HR.out]; exact decide_eq_true (by have := HI.out; rw [List.take_length] at this; omega))
            clear hn2
            go_wp2
            go_ret
            exact ⟨by rw [HT.out]; rfl, HFB.out⟩
end Go.Proofs.YtgdpknmffohhaaaDoor.Pl

/- What turning a line comes to, in plain words. -/
namespace Go.Proofs.YtgdpknmffohhaaaDoor.Pl
open Go.RowKit Go.Lib Go.Proofs.YtgdpknmffohhaaaDoorW.PrintWords Go.Proofs.YtgdpknmffohhaaaDoorW.PrintLast Go.Proofs.YtgdpknmffohhaaaDoorW.PrintMore
set_option linter.unusedVariables false
theorem turnR_ok {F : Ln → Bool × Ln} {x y : Ln} (hm : mayL x = true) (h : F x = (true, y)) : turnR F x = (y, 0) := by
  unfold turnR
  rw [if_pos hm, h, if_pos rfl]
theorem Sz_of {x y : Ln} (hz : Sz x) (hm : mayL y = true) (hc : y.cs = x.cs) : Sz y := by
  have h := (mayL_parts hm).1
  exact ⟨by omega, by rw [hc]; exact hz.2.1, by rw [hc]; exact hz.2.2⟩
def indN (l : Ln) (i : Nat) : Ln := if l.ls = [] then { l with q := l.q + i } else { l with ls := l.ls ++ List.replicate i (lastF l.ls) }
def nOf (l : Ln) : Int := if l.ls = [] then 6 - l.q else 6 - (l.ls.length : Int)
theorem indN_zero (l : Ln) : indN l 0 = l := by
  unfold indN
  split
  · cases l
    simp
  · cases l
    simp
theorem indN_cs (l : Ln) (i : Nat) : (indN l i).cs = l.cs := by
  unfold indN
  split <;> rfl
theorem nOf_range {l : Ln} (hm : mayL l = true) : 0 ≤ nOf l ∧ nOf l ≤ 6 := by
  have h := (mayL_parts hm).1
  unfold nOf
  split <;> omega
theorem may_indN {l : Ln} (hm : mayL l = true) (i : Nat) (hi : (i : Int) ≤ nOf l) : mayL (indN l i) = true := by
  obtain ⟨h1, h2, h3⟩ := mayL_parts hm
  unfold nOf at hi
  unfold indN
  by_cases h0 : l.ls = []
  · rw [if_pos h0] at hi ⊢
    exact mayL_of (x := { l with q := l.q + i }) ⟨by dsimp only; omega, by dsimp only; omega, h1.2.2.1, h1.2.2.2.1, h1.2.2.2.2.1, h1.2.2.2.2.2⟩ h2 h3
  · rw [if_neg h0] at hi ⊢
    have hp := List.length_pos_iff.2 h0
    refine mayL_of (x := { l with ls := l.ls ++ List.replicate i (lastF l.ls) }) ⟨h1.1, h1.2.1, ?_, h1.2.2.2.1, h1.2.2.2.2.1, ?_⟩ (fun k hk => ?_) h3
    · dsimp only
      rw [List.length_append, List.length_replicate]
      omega
    · dsimp only
      omega
    · dsimp only at hk
      rcases List.mem_append.1 hk with hk | hk
      · exact h2 k hk
      · rw [(List.mem_replicate.1 hk).2]
        exact lastF_may hm h0
theorem lastF_rep {ls : List Int} (h0 : ls ≠ []) (i : Nat) : lastF (ls ++ List.replicate i (lastF ls)) = lastF ls := by
  cases i with
  | zero => simp
  | succ i => rw [List.replicate_succ', ← List.append_assoc, lastF_snoc]
theorem ind_step {l : Ln} (hm : mayL l = true) (i : Nat) (hi : (i : Int) < nOf l) : turnR indentF (indN l i) = (indN l (i + 1), 0) := by
  refine turnR_ok (may_indN hm i (by omega)) ?_
  have h1 := (mayL_parts hm).1
  unfold nOf at hi
  unfold indentF indN
  by_cases h0 : l.ls = []
  · rw [if_pos h0] at hi
    rw [if_pos h0, if_pos h0, if_pos h0]
    dsimp only
    rw [decide_eq_true (by omega), show l.q + (i : Int) + 1 = l.q + ((i + 1 : Nat) : Int) by omega]
  · rw [if_neg h0] at hi
    rw [if_neg h0, if_neg h0]
    dsimp only
    rw [if_neg (by simp [h0]), lastF_rep h0, List.append_assoc, ← List.replicate_succ', List.length_append, List.length_replicate, decide_eq_true (by omega)]
/-- a line in a box -/
def MBox (W : World) (b : Nat) (x : Ln) : Prop := ∃ B1 d1 B3 d3, Box_ W b x.q (.slice B1 x.ls.length d1) x.k (.slice B3 x.cs.length d3) ∧ RdL W (.agg #[.int .i64 x.q, .slice B1 x.ls.length d1, .int .i64 x.k, .slice B3 x.cs.length d3]) x
theorem MBox.below {W W1 : World} {b : Nat} {x : Ln} (h : MBox W b x) (hb : Below W.heap.size W W1) : MBox W1 b x := by
  obtain ⟨B1, d1, B3, d3, h1, h2⟩ := h
  exact ⟨B1, d1, B3, d3, blk_below h1 hb, h2.below hb⟩
end Go.Proofs.YtgdpknmffohhaaaDoor.Pl
