/- Printed texts, and given ones, of the seat's functions, in one file. -/
import Derived.Test.YtgdpknmffohhaaaDoorProg
import Derived.Below
import Derived.Deep.Draws
import Derived.Deep.AppendLies
import Derived.Maps.AppendAt
import Derived.OwnWalk
import Derived.Laws.BytesArg
import Derived.Laws.MakeOwn
import Derived.Laws.OwnMore
import Derived.Deep.OwnRows
import Derived.Tactics
import Derived.Lib.ConvBytes
import Derived.Laws.Slices
import Derived.WalkKit
import Derived.KernelRfl
import Derived.RowKit3
import Derived.Deep.LoopGhost
import Derived.Deep.QuietTactic
import Derived.BigQuiet
import Derived.WideLaws
import Derived.Deep.DeepCutAuto
import Derived.Deep.CutBlock
import Derived.Deep.RegionHeld3
import Derived.Laws.Rows
import Derived.Lib.AppendStr
import Derived.ArgAppend
import Derived.Laws.IdiomCopy
import Derived.OrdersHeld
import Derived.Laws.BitsLemmas
import Derived.RowKit
import Derived.BigRegion
import Derived.Deep.RegionWith
import Derived.Laws.Cover4
import Derived.Laws.IdiomStrings
import Derived.Laws.RangeAny
import Derived.Lib.MapLaws
import Derived.Lib.OthersKept
import Derived.Lib.SliceRun
import Derived.LoopIn
import Derived.LoopN
import Derived.LoopNIn
import Derived.LoopTactic
import Derived.Maps.OwnIn
import Derived.OwnWalkIn
import Derived.RangeFuncBound
import Derived.RangeFuncBox
import Derived.RangeFuncCalls
import Derived.RangeFuncLeaves
import Derived.RangeFuncNested
import Derived.Shelf.Abstract
import Derived.Shelf.Strings.Cut
import Derived.Shelf.Strings.MapGrows
import Derived.Shelf.Unicode.ValidAny
import Derived.TacticsInMore
import Derived.Test.YtgdpknmffohhaaaDoorShelf
import Derived.WalkSpells
import Derived.Test.YtgdpknmffohhaaaDoorWWords
import Derived.Test.YtgdpknmffohhaaaDoorWLast
import Derived.Test.YtgdpknmffohhaaaDoorWQPut
import Derived.Test.YtgdpknmffohhaaaDoorWApart
import Derived.Test.YtgdpknmffohhaaaDoorWArr
import Derived.Test.YtgdpknmffohhaaaDoorWZeros
import Derived.Test.YtgdpknmffohhaaaDoorWFoot
import Derived.Test.YtgdpknmffohhaaaDoorWKept
import Derived.Test.YtgdpknmffohhaaaDoorWShare
import Derived.Test.YtgdpknmffohhaaaDoorWN
import Derived.Test.YtgdpknmffohhaaaDoorWEqStruct
import Derived.Test.YtgdpknmffohhaaaDoorWRepsOne
import Derived.Test.YtgdpknmffohhaaaDoorWGuard
import Derived.Test.YtgdpknmffohhaaaDoorWNEv
import Derived.Test.YtgdpknmffohhaaaDoorWMore
namespace Go.Proofs.YtgdpknmffohhaaaDoor.Pl
open Go.RowKit Go.Proofs.YtgdpknmffohhaaaDoorW.PrintWords Go.Proofs.YtgdpknmffohhaaaDoorW.PrintLast Go.Proofs.YtgdpknmffohhaaaDoorW.PrintMore
attribute [local go_sem] max2_int min2_int max_two min_two max_three min_three max_four min_four   -- for this text's walks alone
set_option linter.unusedVariables false
set_option linter.unusedSimpArgs false



def errW : Option Int → Value
  | none => .nilIface
  | some c => .iface 0 (.int .i64 c)
theorem errW_none : errW none = .nilIface := rfl
theorem errW_some (c : Int) : errW (some c) = .iface 0 (.int .i64 c) := rfl

theorem info21 : (Tryd.prog.info? 21).map (fun i => (i.zero, i.size, i.bytes)) = some (some (.int .i32 0), 1, 4) := by kernel_rfl
theorem info71 : (Tryd.prog.info? 71).map (fun i => (i.zero, i.size, i.bytes)) = some (some (.agg #[(.int .i32 0), (.int .i64 0), (.string ⟨#[]⟩)]), 3, 32) := by kernel_rfl
theorem info103 : (Tryd.prog.info? 103).map (fun i => (i.zero, i.size, i.bytes)) = some (some (.agg #[(.int .i64 0), (.int .i64 0), (.int .i64 0), (.string ⟨#[]⟩), (.int .i64 0)]), 5, 48) := by kernel_rfl
-- the values' own types
/-! #### struct type 71 -/
structure S71 where
  f0 : Int
  f1 : Int
  f2 : ByteArray
def z71 : S71 := ⟨(0 : Int), (0 : Int), (⟨#[]⟩ : ByteArray)⟩
def k71 : Kd S71 := Kd.iso (Kd.pair (Kd.int .i32) (Kd.pair (Kd.int .i64) Kd.string)) (fun x : S71 => (x.f0, x.f1, x.f2))
theorem k71_open {w : World} {x : S71} {cs : List Value} (h : k71.K w x cs) : cs = [.int .i32 x.f0, .int .i64 x.f1, .string x.f2] := by
  obtain ⟨_, _, rfl, rfl, ⟨_, _, rfl, rfl, rfl⟩⟩ := h
  exact rfl
theorem k71_openM {w : World} {base : Nat} {ok : Nat → Prop} {x : S71} {cs : List Value} (h : k71.M w base ok x cs) : cs = [.int .i32 x.f0, .int .i64 x.f1, .string x.f2] := by
  obtain ⟨_, _, rfl, rfl, ⟨_, _, rfl, rfl, rfl⟩⟩ := h
  exact rfl
theorem k71_mk (w : World) (x : S71)  : k71.K w x [.int .i32 x.f0, .int .i64 x.f1, .string x.f2] := ⟨[.int .i32 x.f0], [.int .i64 x.f1, .string x.f2], rfl, rfl, ⟨[.int .i64 x.f1], [.string x.f2], rfl, rfl, rfl⟩⟩
theorem k71_mkM (w : World) (base : Nat) (ok : Nat → Prop) (x : S71)  : k71.M w base ok x [.int .i32 x.f0, .int .i64 x.f1, .string x.f2] := ⟨[.int .i32 x.f0], [.int .i64 x.f1, .string x.f2], rfl, rfl, ⟨[.int .i64 x.f1], [.string x.f2], rfl, rfl, rfl⟩⟩
def rd_T71 (xs : List S71) (i : Int) : S71 := xs.getD i.toNat z71
theorem at_T71 {w : World} {A : Option Addr} {n : Nat} {xs : List S71} (h : Kd.C k71 w A n xs) (i : Int) (h0 : 0 ≤ i) (h1 : i < n) : ∃ ad , A = some ad ∧ w.cell? (ad.add (i.toNat * 3)) = some (.int .i32 (rd_T71 xs i).f0) ∧ w.cell? ⟨(ad.add (i.toNat * 3)).block, (ad.add (i.toNat * 3)).off + 1, none⟩ = some (.int .i64 (rd_T71 xs i).f1) ∧ w.cell? ⟨(ad.add (i.toNat * 3)).block, (ad.add (i.toNat * 3)).off + 2, none⟩ = some (.string (rd_T71 xs i).f2) := by
  obtain ⟨ad, c, e, _, hK, hc0⟩ := Kd.C_get h z71 i h0 h1
  have hc : ∀ j u, c[j]? = some u → w.cell? (ad.add (i.toNat * 3 + j)) = some u := hc0
  obtain rfl := k71_open hK
  exact ⟨ad, e, hc 0 _ rfl, by rw [← add_field _ _ 1 (by omega)]; exact hc 1 _ rfl, by rw [← add_field _ _ 2 (by omega)]; exact hc 2 _ rfl⟩

/-! #### struct type 103 -/
structure S103 where
  f0 : Int
  f1 : Int
  f2 : Int
  f3 : ByteArray
  f4 : Int
def z103 : S103 := ⟨(0 : Int), (0 : Int), (0 : Int), (⟨#[]⟩ : ByteArray), (0 : Int)⟩
def k103 : Kd S103 := Kd.iso (Kd.pair (Kd.int .i64) (Kd.pair (Kd.int .i64) (Kd.pair (Kd.int .i64) (Kd.pair Kd.string (Kd.int .i64))))) (fun x : S103 => (x.f0, x.f1, x.f2, x.f3, x.f4))
theorem k103_open {w : World} {x : S103} {cs : List Value} (h : k103.K w x cs) : cs = [.int .i64 x.f0, .int .i64 x.f1, .int .i64 x.f2, .string x.f3, .int .i64 x.f4] := by
  obtain ⟨_, _, rfl, rfl, ⟨_, _, rfl, rfl, ⟨_, _, rfl, rfl, ⟨_, _, rfl, rfl, rfl⟩⟩⟩⟩ := h
  exact rfl
theorem k103_mkM (w : World) (base : Nat) (ok : Nat → Prop) (x : S103)  : k103.M w base ok x [.int .i64 x.f0, .int .i64 x.f1, .int .i64 x.f2, .string x.f3, .int .i64 x.f4] := ⟨[.int .i64 x.f0], [.int .i64 x.f1, .int .i64 x.f2, .string x.f3, .int .i64 x.f4], rfl, rfl, ⟨[.int .i64 x.f1], [.int .i64 x.f2, .string x.f3, .int .i64 x.f4], rfl, rfl, ⟨[.int .i64 x.f2], [.string x.f3, .int .i64 x.f4], rfl, rfl, ⟨[.string x.f3], [.int .i64 x.f4], rfl, rfl, rfl⟩⟩⟩⟩
def rd_T103 (xs : List S103) (i : Int) : S103 := xs.getD i.toNat z103
theorem at_T103 {w : World} {A : Option Addr} {n : Nat} {xs : List S103} (h : Kd.C k103 w A n xs) (i : Int) (h0 : 0 ≤ i) (h1 : i < n) : ∃ ad , A = some ad ∧ w.cell? (ad.add (i.toNat * 5)) = some (.int .i64 (rd_T103 xs i).f0) ∧ w.cell? ⟨(ad.add (i.toNat * 5)).block, (ad.add (i.toNat * 5)).off + 1, none⟩ = some (.int .i64 (rd_T103 xs i).f1) ∧ w.cell? ⟨(ad.add (i.toNat * 5)).block, (ad.add (i.toNat * 5)).off + 2, none⟩ = some (.int .i64 (rd_T103 xs i).f2) ∧ w.cell? ⟨(ad.add (i.toNat * 5)).block, (ad.add (i.toNat * 5)).off + 3, none⟩ = some (.string (rd_T103 xs i).f3) ∧ w.cell? ⟨(ad.add (i.toNat * 5)).block, (ad.add (i.toNat * 5)).off + 4, none⟩ = some (.int .i64 (rd_T103 xs i).f4) := by
  obtain ⟨ad, c, e, _, hK, hc0⟩ := Kd.C_get h z103 i h0 h1
  have hc : ∀ j u, c[j]? = some u → w.cell? (ad.add (i.toNat * 5 + j)) = some u := hc0
  obtain rfl := k103_open hK
  exact ⟨ad, e, hc 0 _ rfl, by rw [← add_field _ _ 1 (by omega)]; exact hc 1 _ rfl, by rw [← add_field _ _ 2 (by omega)]; exact hc 2 _ rfl, by rw [← add_field _ _ 3 (by omega)]; exact hc 3 _ rfl, by rw [← add_field _ _ 4 (by omega)]; exact hc 4 _ rfl⟩

/-! #### struct type 38 -/
end Go.Proofs.YtgdpknmffohhaaaDoor.Pl

namespace Go.Proofs.YtgdpknmffohhaaaDoor.Pl
open Go.RowKit Go.Proofs.YtgdpknmffohhaaaDoorW.PrintWords Go.Proofs.YtgdpknmffohhaaaDoorW.PrintLast Go.Proofs.YtgdpknmffohhaaaDoorW.PrintMore
attribute [local go_sem] max2_int min2_int max_two min_two max_three min_three max_four min_four   -- for this text's walks alone
set_option linter.unusedVariables false
set_option linter.unusedSimpArgs false

/-! ### quillworklaw05_long: function 53 -/
def quillworklaw05_long.l0 : Nat → List (S71) → Int → Int → Option (Bool)
  | 0, _, _, _ => none
  | k + 1, x0, x3, x4 => if x4 < (x0.length : Int) then (if x3 ≤ 20000 then (if 0 ≤ x4 then (quillworklaw05_long.l0 k x0 (wrap64 (x3 + (wrap64 ((((rd_T71 x0 x4).f2).size : Int) / 8)))) (wrap64 (x4 + 1))) else (none)) else (some (decide (x3 > 20000)))) else (some (decide (x3 > 20000)))
def quillworklaw05_long.f (k : Nat) (l0 : List (S71)) : Option (Bool) := quillworklaw05_long.l0 k l0 (l0.length : Int) 0
set_option maxHeartbeats 8000000 in
set_option maxRecDepth 100000 in
theorem quillworklaw05_long.calls (k : Nat) (A0 : Option Addr) (c0 : Nat) (l0 : List (S71)) (r : Bool) (w : World) (hr0 : Kd.C k71 w A0 l0.length l0) (hc0 : l0.length ≤ c0) (h : quillworklaw05_long.f k l0 = some r) :
    Calls Tryd.prog 53 #[.slice A0 l0.length c0] w fun e w' => e = .returned (.bool r) ∧ Drawn0 w w' := by
  have HR0 := Aside0.mk hr0
  have HC0 := Aside0.mk hc0
  clear hr0 hc0
  have H : (quillworklaw05_long.l0 k l0 (l0.length : Int) 0) = some r := h
  clear h
  have H' := Aside0.mk H
  clear H
  go_enter Tryd.func53, Tryd.ntmps53
  go_wp2
  go_loopg [3, 4] k (fun kq v3 v4 w' => ∃ (x3_1 : Int) (x4_1 : Int), v3 = .int .i64 x3_1 ∧ v4 = .int .i64 x4_1 ∧ Aside0 (quillworklaw05_long.l0 kq l0 x3_1 x4_1 = some r) ∧ Aside0 (kq ≤ k) ∧ Drawn0 w w')
  case atStart => exact ⟨((l0.length : Int)), (0), (by first | rfl | (simp; done) | (simp [*]; done)), (by first | rfl | (simp; done) | (simp [*]; done)), H', ⟨Nat.le_refl _⟩, by repeat (first | exact Drawn0.refl _ | apply Drawn0.step)⟩
  case round =>
    clear H'
    obtain ⟨x3_1, x4_1, rfl, rfl, HA, HK1, ⟨m1, rfl⟩⟩ := hrel
    cases gk with
    | zero => exact absurd HA.out (by simp [quillworklaw05_long.l0])
    | succ k1 =>
      have H := HA.out
      clear HA
      simp only [quillworklaw05_long.l0] at H
      by_cases c2 : x4_1 < (l0.length : Int)
      · rw [if_pos c2] at H
        have c2b0 : decide (x4_1 < (l0.length : Int)) = true := decide_eq_true c2
        clear c2
        by_cases c3 : x3_1 ≤ 20000
        · rw [if_pos c3] at H
          have c3b0 : decide (x3_1 ≤ 20000) = true := decide_eq_true c3
          clear c3
          by_cases c4 : 0 ≤ x4_1
          · rw [if_pos c4] at H
            have c4b0 : decide (0 ≤ x4_1) = true := decide_eq_true c4
            clear c4
            have H' := Aside0.mk H
            clear H
            have p101 : 0 ≤ (x4_1 : Int) := of_decide_eq_true (by first | (with_reducible assumption) | assumption)
            have q101 : x4_1 < (l0.length : Int) := of_decide_eq_true (by first | (with_reducible assumption) | assumption)
            obtain ⟨ad101, e101, hx101_0, hx101_1, hx101_2⟩ := at_T71 HR0.out x4_1 p101 q101
            cases e101
            replace p101 := eq_true p101
            replace q101 := eq_true q101
            go_wp2
            go_roundg k1
            case measure => have := HK1.out; omega
            case rel => exact ⟨(wrap64 (x3_1 + (wrap64 ((((rd_T71 l0 x4_1).f2).size : Int) / 8)))), (wrap64 (x4_1 + 1)), (by first | rfl | (simp; done) | (simp [*]; done)), (by first | rfl | (simp; done) | (simp [*]; done)), H', ⟨by have := HK1.out; omega⟩, by repeat (first | exact Drawn0.refl _ | apply Drawn0.step)⟩
          · rw [if_neg c4] at H
            exact absurd H (by simp)
        · rw [if_neg c3] at H
          have c3b0 : decide (x3_1 ≤ 20000) = false := decide_eq_false c3
          clear c3
          obtain rfl := Option.some.inj H
          go_wp2
          go_ret
          exact ⟨by first | rfl | (simp; done) | (simp [*]; done), by repeat (first | exact Drawn0.refl _ | apply Drawn0.step)⟩
      · rw [if_neg c2] at H
        have c2b0 : decide (x4_1 < (l0.length : Int)) = false := decide_eq_false c2
        clear c2
        obtain rfl := Option.some.inj H
        go_wp2
        go_ret
        exact ⟨by first | rfl | (simp; done) | (simp [*]; done), by repeat (first | exact Drawn0.refl _ | apply Drawn0.step)⟩

end Go.Proofs.YtgdpknmffohhaaaDoor.Pl

namespace Go.Proofs.YtgdpknmffohhaaaDoor.Pl
open Go.RowKit Go.Proofs.YtgdpknmffohhaaaDoorW.PrintWords Go.Proofs.YtgdpknmffohhaaaDoorW.PrintLast Go.Proofs.YtgdpknmffohhaaaDoorW.PrintMore
attribute [local go_sem] max2_int min2_int max_two min_two max_three min_three max_four min_four   -- for this text's walks alone
set_option linter.unusedVariables false
set_option linter.unusedSimpArgs false

/-! ### lib_world -/
theorem cell_new_ (W : World) (v : Value) (t : TypeId) : (W.alloc (.cells #[v] t)).cell? ⟨W.heap.size, 0, none⟩ = some v := by
  have h := cell_one_new W v t 0 v rfl
  rwa [show (⟨W.heap.size, 0, none⟩ : Addr).add 0 = ⟨W.heap.size, 0, none⟩ from rfl] at h
theorem cell_alloc_ {W : World} {a : Addr} {v : Value} (o : Obj) (h : W.cell? a = some v) : (W.alloc o).cell? a = some v :=
  ((below_alloc (Below.refl W.heap.size W) o).cell (World.block_lt_of_cell? W a h)).trans h

end Go.Proofs.YtgdpknmffohhaaaDoor.Pl

namespace Go.Proofs.YtgdpknmffohhaaaDoor.Pl
open Go.RowKit Go.Proofs.YtgdpknmffohhaaaDoorW.PrintWords Go.Proofs.YtgdpknmffohhaaaDoorW.PrintLast Go.Proofs.YtgdpknmffohhaaaDoorW.PrintMore
attribute [local go_sem] max2_int min2_int max_two min_two max_three min_three max_four min_four   -- for this text's walks alone
set_option linter.unusedVariables false
set_option linter.unusedSimpArgs false

/-! ### lib_cellset -/
/-- One cell of an owned row: what it holds, and what a store into its bits, its link makes of the row. -/
theorem cell_elem_ {W : World} {B g n cap : Nat} {ok : Nat → Prop} {xs : List S71} (h : Kd.R k71 71 W B ok (.slice (some ⟨g, 0, none⟩) n cap) xs) (k : Nat) (hk : k < xs.length) :
    (W.cell? ⟨g, k * 3, none⟩ = some (.int .i32 (rd_T71 xs (k : Int)).f0) ∧ W.cell? ⟨g, k * 3 + 1, none⟩ = some (.int .i64 (rd_T71 xs (k : Int)).f1) ∧ W.cell? ⟨g, k * 3 + 2, none⟩ = some (.string (rd_T71 xs (k : Int)).f2)) ∧
    (W.frozen? ⟨g, k * 3, none⟩ = false ∧ W.frozen? ⟨g, k * 3 + 1, none⟩ = false ∧ W.frozen? ⟨g, k * 3 + 2, none⟩ = false) ∧
    (∀ b : Int, Kd.R k71 71 (W.setCell ⟨g, k * 3 + 1, none⟩ (.int .i64 b)) B ok (.slice (some ⟨g, 0, none⟩) n cap) (xs.set k ⟨(rd_T71 xs (k : Int)).f0, b, (rd_T71 xs (k : Int)).f2⟩)) ∧
    (∀ b : ByteArray, Kd.R k71 71 (W.setCell ⟨g, k * 3 + 2, none⟩ (.string b)) B ok (.slice (some ⟨g, 0, none⟩) n cap) (xs.set k ⟨(rd_T71 xs (k : Int)).f0, (rd_T71 xs (k : Int)).f1, b⟩)) := by
  have hn : n = xs.length := (Kd.R_reads' h).1
  obtain ⟨ce, hcl, hM, hcc, hfr⟩ := Kd.R_elem h z71 (k : Int) (by omega) (by omega)
  have hce : ce = [.int .i32 (rd_T71 xs (k : Int)).f0, .int .i64 (rd_T71 xs (k : Int)).f1, .string (rd_T71 xs (k : Int)).f2] := k71_openM hM
  subst hce
  refine ⟨⟨hcc 0 _ rfl, hcc 1 _ rfl, hcc 2 _ rfl⟩, ⟨hfr 0, hfr 1, hfr 2⟩, fun b => ?_, fun b => ?_⟩
  · exact (Kd.R_seg h (k : Int) (by omega) (by omega) (seg := [.int .i64 b]) (j := 1) hcl hcc (show 2 ≤ 3 from by decide) (x' := (⟨(rd_T71 xs (k : Int)).f0, b, (rd_T71 xs (k : Int)).f2⟩ : S71)) (k71_mkM _ _ _ _) (fun _ hk => hk)).1
  · exact (Kd.R_seg h (k : Int) (by omega) (by omega) (seg := [.string b]) (j := 2) hcl hcc (show 3 ≤ 3 from by decide) (x' := (⟨(rd_T71 xs (k : Int)).f0, (rd_T71 xs (k : Int)).f1, b⟩ : S71)) (k71_mkM _ _ _ _) (fun _ hk => hk)).1
def spanned_ {α : Type} (l : List α) (a b : Int) : Prop := 0 ≤ a ∧ a ≤ b ∧ b ≤ (l.length : Int)
instance {α : Type} (l : List α) (a b : Int) : Decidable (spanned_ l a b) := by unfold spanned_; infer_instance
/-- f upon the elements from a on, ahead of b. -/
def upon_ {α : Type} (f : α → α) (l : List α) (a b : Nat) : List α := l.take a ++ ((l.take b).drop a).map f ++ l.drop b
theorem upon_at_ {α : Type} (f : α → α) (l : List α) (a b : Nat) (hab : a ≤ b) (hb : b ≤ l.length) (j : Nat) : (upon_ f l a b)[j]? = if a ≤ j ∧ j < b then (l[j]?).map f else l[j]? := by
  unfold upon_
  rw [List.append_assoc, List.getElem?_append, List.getElem?_append]
  simp only [List.length_take, List.length_map, List.length_drop]
  rw [Nat.min_eq_left (by omega), Nat.min_eq_left hb]
  by_cases h1 : j < a
  · rw [if_pos h1, if_neg (by omega), List.getElem?_take_of_lt h1]
  · rw [if_neg h1]
    by_cases h2 : j < b
    · rw [if_pos (by omega), if_pos ⟨by omega, h2⟩, List.getElem?_map, List.getElem?_drop, show a + (j - a) = j by omega, List.getElem?_take_of_lt h2]
    · rw [if_neg (by omega), if_neg (by omega), List.getElem?_drop]
      congr 1
      omega
theorem upon_length_ {α : Type} (f : α → α) (l : List α) (a b : Nat) (hab : a ≤ b) (hb : b ≤ l.length) : (upon_ f l a b).length = l.length := by
  unfold upon_
  simp only [List.length_append, List.length_take, List.length_map, List.length_drop]
  omega
theorem upon_step_ {α : Type} (f : α → α) (l : List α) (a b : Nat) (hab : a < b) (hb : b ≤ l.length) (x : α) (hx : l[a]? = some x) : upon_ f (l.set a (f x)) (a + 1) b = upon_ f l a b := by
  apply List.ext_getElem?
  intro j
  rw [upon_at_ f _ _ _ (by omega) (by rw [List.length_set]; exact hb), upon_at_ f _ _ _ (by omega) hb, List.getElem?_set]
  by_cases h1 : a = j
  · subst h1
    rw [if_neg (by omega), if_pos rfl, if_pos (by omega), if_pos ⟨Nat.le_refl _, hab⟩, hx]
    rfl
  · rw [if_neg h1]
    by_cases h2 : a ≤ j ∧ j < b
    · rw [if_pos ⟨by omega, h2.2⟩, if_pos h2]
    · rw [if_neg (by omega), if_neg h2]
theorem upon_none_ {α : Type} (f : α → α) (l : List α) (a : Nat) (ha : a ≤ l.length) : upon_ f l a a = l := by
  apply List.ext_getElem?
  intro j
  rw [upon_at_ f _ _ _ (Nat.le_refl _) ha, if_neg (by omega)]
theorem rd_at_ {xs : List S71} {k : Nat} (hk : k < xs.length) : xs[k]? = some (rd_T71 xs (k : Int)) := by
  unfold rd_T71
  rw [Int.toNat_natCast, List.getD_eq_getElem?_getD, List.getElem?_eq_getElem hk]
  rfl

end Go.Proofs.YtgdpknmffohhaaaDoor.Pl

namespace Go.Proofs.YtgdpknmffohhaaaDoor.Pl
open Go.RowKit Go.Proofs.YtgdpknmffohhaaaDoorW.PrintWords Go.Proofs.YtgdpknmffohhaaaDoorW.PrintLast Go.Proofs.YtgdpknmffohhaaaDoorW.PrintMore
attribute [local go_sem] max2_int min2_int max_two min_two max_three min_three max_four min_four   -- for this text's walks alone
set_option linter.unusedVariables false
set_option linter.unusedSimpArgs false

/-! ### css_Over: function 103 -/
def css_Over.f (a0 : Int) (a1 : Int) (a2 : Int) : Option (Int) := some (Go.bits .or .i64 (Go.bits .andNot .i64 a0 a2) a1)
set_option maxHeartbeats 8000000 in
set_option maxRecDepth 100000 in
theorem css_Over.calls (a0 : Int) (a1 : Int) (a2 : Int) (r : Int) (w : World) (h : css_Over.f a0 a1 a2 = some r) :
    Calls Tryd.prog 103 #[.int .i64 a0, .int .i64 a1, .int .i64 a2] w fun e w' => e = .returned (.int .i64 r) ∧ Drawn0 w w' := by
  have H : (some (Go.bits .or .i64 (Go.bits .andNot .i64 a0 a2) a1)) = some r := h
  clear h
  obtain rfl := Option.some.inj H
  go_enter Tryd.func103, Tryd.ntmps103
  go_wp2
  go_ret
  exact ⟨by first | rfl | (simp; done) | (simp [*]; done), by repeat (first | exact Drawn0.refl _ | apply Drawn0.step)⟩

end Go.Proofs.YtgdpknmffohhaaaDoor.Pl

namespace Go.Proofs.YtgdpknmffohhaaaDoor.Pl
open Go.RowKit Go.Proofs.YtgdpknmffohhaaaDoorW.PrintWords Go.Proofs.YtgdpknmffohhaaaDoorW.PrintLast Go.Proofs.YtgdpknmffohhaaaDoorW.PrintMore
attribute [local go_sem] max2_int min2_int max_two min_two max_three min_three max_four min_four   -- for this text's walks alone
set_option linter.unusedVariables false
set_option linter.unusedSimpArgs false

/-! ### cells_span: function 108 -/
def cells_span.f (l0 : List (S71)) (a1 : Int) (a2 : Int) : Option (Bool) := if a1 ≥ 0 then (if a1 ≤ a2 then (some (decide (a2 ≤ (l0.length : Int)))) else (some false)) else (some false)
set_option maxHeartbeats 8000000 in
set_option maxRecDepth 100000 in
theorem cells_span.calls (A0 : Option Addr) (c0 : Nat) (l0 : List (S71)) (a1 : Int) (a2 : Int) (r : Bool) (w : World) (hr0 : Kd.C k71 w A0 l0.length l0) (hc0 : l0.length ≤ c0) (h : cells_span.f l0 a1 a2 = some r) :
    Calls Tryd.prog 108 #[.slice A0 l0.length c0, .int .i64 a1, .int .i64 a2] w fun e w' => e = .returned (.bool r) ∧ Drawn0 w w' := by
  have HR0 := Aside0.mk hr0
  have HC0 := Aside0.mk hc0
  clear hr0 hc0
  have H : (if a1 ≥ 0 then (if a1 ≤ a2 then (some (decide (a2 ≤ (l0.length : Int)))) else (some false)) else (some false)) = some r := h
  clear h
  by_cases c4 : a1 ≥ 0
  · rw [if_pos c4] at H
    have c4b0 : decide (0 ≤ a1) = true := decide_eq_true c4
    clear c4
    by_cases c5 : a1 ≤ a2
    · rw [if_pos c5] at H
      have c5b0 : decide (a1 ≤ a2) = true := decide_eq_true c5
      clear c5
      obtain rfl := Option.some.inj H
      go_enter Tryd.func108, Tryd.ntmps108
      go_wp2
      go_ret
      exact ⟨by first | rfl | (simp; done) | (simp [*]; done), by repeat (first | exact Drawn0.refl _ | apply Drawn0.step)⟩
    · rw [if_neg c5] at H
      have c5b0 : decide (a1 ≤ a2) = false := decide_eq_false c5
      clear c5
      obtain rfl := Option.some.inj H
      go_enter Tryd.func108, Tryd.ntmps108
      go_wp2
      go_ret
      exact ⟨by first | rfl | (simp; done) | (simp [*]; done), by repeat (first | exact Drawn0.refl _ | apply Drawn0.step)⟩
  · rw [if_neg c4] at H
    have c4b0 : decide (0 ≤ a1) = false := decide_eq_false c4
    clear c4
    obtain rfl := Option.some.inj H
    go_enter Tryd.func108, Tryd.ntmps108
    go_wp2
    go_ret
    exact ⟨by first | rfl | (simp; done) | (simp [*]; done), by repeat (first | exact Drawn0.refl _ | apply Drawn0.step)⟩

end Go.Proofs.YtgdpknmffohhaaaDoor.Pl

namespace Go.Proofs.YtgdpknmffohhaaaDoor.Pl
open Go.RowKit Go.Proofs.YtgdpknmffohhaaaDoorW.PrintWords Go.Proofs.YtgdpknmffohhaaaDoorW.PrintLast Go.Proofs.YtgdpknmffohhaaaDoorW.PrintMore
attribute [local go_sem] max2_int min2_int max_two min_two max_three min_three max_four min_four   -- for this text's walks alone
set_option linter.unusedVariables false
set_option linter.unusedSimpArgs false

/-! ### slices_Clone_Cell: function 87 (given) -/
def slices_Clone_Cell.f (l0 : List (S71)) : Option (List (S71)) := if l0.length < 4398046511104 then some l0 else none
set_option maxHeartbeats 1000000 in
theorem slices_Clone_Cell.calls (A0 : Option Addr) (c0 : Nat) (l0 : List (S71)) (r : List (S71)) (w : World) (hr0 : Kd.C k71 w A0 l0.length l0) (hc0 : l0.length ≤ c0) (h : slices_Clone_Cell.f l0 = some r) :
    Calls Tryd.prog 87 #[.slice A0 l0.length c0] w fun e w' => ∃ v0_ : Value, e = .returned (v0_) ∧ Kd.R k71 71 w' w.heap.size (fun _ => True) v0_ r ∧ Below w.heap.size w w' := by
  have HR0 := Aside0.mk hr0
  clear hr0 hc0
  have HB := Aside0.mk (Below.refl w.heap.size w)
  have q : ∀ (w : World) (a : Option Addr) (n c n' c' : Nat), (binOp .eql 36 (.slice a n c) (.slice none n' c')).run Tryd.prog w = .ok (.bool a.isNone) w := fun w a n c n' c' => Lib.run_eql_slice_nil w _ _ a n c n' c' Tryd.underlying36
  unfold slices_Clone_Cell.f at h
  by_cases c2 : l0.length < 4398046511104
  · rw [if_pos c2] at h
    obtain rfl := Option.some.inj h
    have LM := Aside0.mk c2
    clear c2 h
    cases A0 with
    | none =>
      have h0 : l0 = [] := by
        rcases Nat.eq_zero_or_pos l0.length with h | h
        · exact List.eq_nil_of_length_eq_zero h
        · obtain ⟨ad, h, _⟩ := HR0.out.2.2 h
          cases h
      subst h0
      go_enter Tryd.func87, Tryd.ntmps87
      go_wp2
      go_ret
      exact ⟨_, rfl, Kd.R_nil _ _ _ _ _, Below.refl _ _⟩
    | some ad =>
      go_enter Tryd.func87, Tryd.ntmps87
      go_wp2_with (first | ((with_reducible refine gate_dst (N := 5) rfl ?_); refine Kd.R_lit k71 _ 71 ?hg (N := 5) ?hd (xs := ([] : List (S71))) (inner := []) (ok := fun _ => True) (okp := fun _ => True) ?hr ?hp (fun _ hk => hk) trivial (Below.refl _ _) (Nat.le_refl _) (by simp) ?_; (case hd => rfl); (case hg => rfl); (case hr => first | (go_simp; done) | (go_simp; rfl)); (case hp => exact (Reps.none _ _)); intro v148 w3 ho4 hb hg_ hnew_; clear hg_ hnew_; have n0_ := Aside0.mk (Kd.R_lower ho4 (below_size (by repeat (first | (with_reducible first | exact HB.out | apply below_alloc | apply pw_below_drewN | apply below_drew1) | exact HB.out)))); have n1_ := Aside0.mk (below_step (by repeat (first | (with_reducible first | exact HB.out | apply below_alloc | apply pw_below_drewN | apply below_drew1) | exact HB.out)) hb); clear HB; have HO149 := n0_; have HB := n1_; clear n0_ n1_; clear hb ho4) | ((with_reducible refine gate_builtin (b := .append) (xs := #[.tmp 5, .tmp 6]) rfl ?_); at_builtin; refine Kd.R_append_rows k71 (w0 := w) w.heap.size rfl (.tmp 5) (.tmp 6) 36 71 (.agg #[(.int .i32 0), (.int .i64 0), (.string ⟨#[]⟩)]) 32 rfl Tryd.underlying36 info71 rfl (by decide) (by omega) v148 ([] : List S71) l0 _ _ _ (fun _ => True) (fun _ => False) rfl rfl ?aO ?aR (fun _ _ h => h) (fun _ h => h.elim) ?aF ?aB ?aS ?aL ?_; (case aR => repeat (first | exact (Kd.C_below HR0.out HB.out) | (with_reducible refine Kd.C_alloc ?_ _) | (with_reducible refine Kd.C_drewN ?_ _) | (with_reducible refine Kd.C_drew ?_))); (case aB => exact (by repeat (first | (with_reducible first | exact HB.out | apply below_alloc | apply pw_below_drewN | apply below_drew1) | exact HB.out))); (case aF => exact (fun _ _ => trivial)); (case aO => exact (by (with_reducible repeat (first | apply Kd.R_alloc | apply Kd.R_drewN | apply Kd.R_drew)); exact HO149.out)); (case aS => exact (below_size (by repeat (first | (with_reducible first | exact HB.out | apply below_alloc | apply pw_below_drewN | apply below_drew1) | exact HB.out)))); (case aL => have h_ := LM.out; simp only [List.length_nil]; omega); intro v151 w5 ho hb hg hat; rw [List.nil_append] at ho; have n0_ := Aside0.mk (hb); have n1_ := Aside0.mk (ho); clear HB; clear HO149; have HB := n0_; have HO152 := n1_; clear n0_ n1_; clear ho hb hg hat))
      go_ret
      exact ⟨_, rfl, HO152.out, HB.out⟩
  · rw [if_neg c2] at h
    exact absurd h (by simp)

end Go.Proofs.YtgdpknmffohhaaaDoor.Pl

namespace Go.Proofs.YtgdpknmffohhaaaDoor.Pl
open Go.RowKit Go.Proofs.YtgdpknmffohhaaaDoorW.PrintWords Go.Proofs.YtgdpknmffohhaaaDoorW.PrintLast Go.Proofs.YtgdpknmffohhaaaDoorW.PrintMore
attribute [local go_sem] max2_int min2_int max_two min_two max_three min_three max_four min_four   -- for this text's walks alone
set_option linter.unusedVariables false
set_option linter.unusedSimpArgs false

/-! ### cells_Set: function 56 (given) -/
def over_ (s c : Int) (x : S71) : S71 := ⟨x.f0, Go.bits .or .i64 (Go.bits .andNot .i64 x.f1 (Go.bits .and .i64 c 15)) (Go.bits .and .i64 s 15), x.f2⟩
theorem css_Over_is_ (a b c : Int) : css_Over.f a b c = some (Go.bits .or .i64 (Go.bits .andNot .i64 a c) b) := rfl
set_option maxHeartbeats 4000000 in
theorem setOne_ (w : World) (pa : Addr) (b1 b2 : Nat) (x s c : Int) (h1 : w.cell? ⟨pa.block, pa.off + 1, none⟩ = some (.int .i64 x)) (hf : w.frozen? ⟨pa.block, pa.off + 1, none⟩ = false) (h2 : w.cell? ⟨b1, 0, none⟩ = some (.int .i64 s)) (h3 : w.cell? ⟨b2, 0, none⟩ = some (.int .i64 c)) :
    Calls Tryd.prog 102 #[.pointer (some pa), .pointer (some ⟨b1, 0, none⟩), .pointer (some ⟨b2, 0, none⟩)] w fun e w' => e = .returned (.tuple #[]) ∧ Drawn0 (w.setCell ⟨pa.block, pa.off + 1, none⟩ (.int .i64 (Go.bits .or .i64 (Go.bits .andNot .i64 x (Go.bits .and .i64 c 15)) (Go.bits .and .i64 s 15)))) w' := by
  go_enter Tryd.func102, Tryd.ntmps102
  go_wp2
  go_region_with (go_at_call 103; refine (css_Over.calls _ _ _ _ _ (css_Over_is_ _ _ _)).mono ?_; rintro e w' ⟨rfl, ⟨nd, rfl⟩⟩)
  all_goals (go_end0; exact ⟨rfl, ⟨⟨1 + nd, rfl⟩⟩⟩)
set_option maxHeartbeats 4000000 in
theorem eachSet_ (A0 : Option Addr) (c0 : Nat) (l0 : List (S71)) (a1 : Int) (a2 : Int) (s c : Int) (b1 b2 : Nat) (w : World) (hr0 : Kd.C k71 w A0 l0.length l0) (hc0 : l0.length ≤ c0)
    (h2 : w.cell? ⟨b1, 0, none⟩ = some (.int .i64 s)) (h3 : w.cell? ⟨b2, 0, none⟩ = some (.int .i64 c)) (hs : spanned_ l0 a1 a2) (hl : l0.length < 4398046511104) :
    Calls Tryd.prog 101 #[.slice A0 l0.length c0, .int .i64 a1, .int .i64 a2, .func (.func 102) #[] #[.pointer (some ⟨b1, 0, none⟩), .pointer (some ⟨b2, 0, none⟩)]] w fun e w' => ∃ v0_ : Value, e = .returned (.tuple #[v0_, .int .i64 0]) ∧ Kd.R k71 71 w' w.heap.size (fun _ => True) v0_ (upon_ (over_ s c) l0 a1.toNat a2.toNat) ∧ Below w.heap.size w w' := by
  have HR0 := Aside0.mk hr0
  have HC0 := Aside0.mk hc0
  have HB := Aside0.mk (Below.refl w.heap.size w)
  have H2 := Aside0.mk h2
  have H3 := Aside0.mk h3
  have HL := Aside0.mk hl
  clear hr0 hc0 h2 h3 hl
  obtain ⟨hs0, hs1, hs2⟩ := hs
  obtain ⟨p, rfl⟩ := Int.eq_ofNat_of_zero_le hs0
  obtain ⟨q, rfl⟩ := Int.eq_ofNat_of_zero_le (show 0 ≤ a2 by omega)
  have hpq : p ≤ q := by omega
  have hq : q ≤ l0.length := by omega
  have A6 := Aside0.mk (show cells_span.f l0 (p : Int) (q : Int) = some true by unfold cells_span.f; rw [if_pos hs0, if_pos hs1, decide_eq_true hs2])
  have A8 := Aside0.mk (show slices_Clone_Cell.f l0 = some l0 by unfold slices_Clone_Cell.f; rw [if_pos HL.out])
  clear hs0 hs1 hs2
  rw [Int.toNat_natCast, Int.toNat_natCast]
  have hmx : q ≤ 9223372036854775807 := by have := HL.out; omega
  go_enter Tryd.func101, Tryd.ntmps101
  go_wp2_with (first | ((with_reducible refine gate_callee (f := 108) rfl ?_); refine goesL_ (some 15) rfl rfl Tryd.func108 (by kernel_rfl) rfl #[.slice A0 l0.length c0, .int .i64 (p : Int), .int .i64 (q : Int)] rfl (by (try simp only [List.map_toArray, List.map_cons, List.map_nil]); first | done | rfl) ?_; (with_reducible refine (cells_span.calls _ _ l0 (p : Int) (q : Int) true _ HR0.out HC0.out A6.out).mono ?_); rintro e w' ⟨rfl, ⟨nd, rfl⟩⟩; refine ⟨_, rfl, ?_⟩) | ((with_reducible refine gate_callee (f := 87) rfl ?_); refine goesL_ (some 18) rfl rfl Tryd.func87 (by kernel_rfl) rfl #[.slice A0 l0.length c0] rfl (by (try simp only [List.map_toArray, List.map_cons, List.map_nil]); first | done | rfl) ?_; (with_reducible refine (slices_Clone_Cell.calls _ _ l0 l0 _ ?side1 ?side2 A8.out).mono ?_); (case side1 => repeat (first | exact HR0.out | (with_reducible refine Kd.C_alloc ?_ _) | (with_reducible refine Kd.C_drewN ?_ _) | (with_reducible refine Kd.C_drew ?_))); (case side2 => exact HC0.out); rintro e w9 ⟨v155, rfl, ho0, hb⟩; refine ⟨_, rfl, ?_⟩; have n0_ := Aside0.mk (Kd.R_lower ho0 (below_size (by repeat (first | (with_reducible first | exact HB.out | apply below_alloc | apply pw_below_drewN | apply below_drew1) | exact HB.out)))); have n1_ := Aside0.mk (below_step (by repeat (first | (with_reducible first | exact HB.out | apply below_alloc | apply pw_below_drewN | apply below_drew1) | exact HB.out)) hb); clear HB; have HO156 := n0_; have HB := n1_; clear n0_ n1_; (try clear hb); (try clear ho0)))
  go_loopw [11] (fun v wr => ∃ (k : Nat) (xs : List S71), v = .int .i64 (k : Int) ∧ p ≤ k ∧ k ≤ q ∧ Aside0 (xs.length = l0.length) ∧ Aside0 (upon_ (over_ s c) xs k q = upon_ (over_ s c) l0 p q) ∧ Aside0 (Kd.R k71 71 wr w.heap.size (fun _ => True) v155 xs) ∧ Aside0 (Below w.heap.size w wr)) (fun v _ => q - (intOf v).toNat)
  case atStart => exact ⟨p, l0, rfl, Nat.le_refl _, hpq, ⟨rfl⟩, ⟨rfl⟩, HO156, HB⟩
  case round =>
    obtain ⟨k, xs, rfl, hk1, hk2, HN, HU, HO, HB⟩ := hrel
    by_cases hlt : k < q
    · have hkx : k < xs.length := by have := HN.out; omega
      obtain ⟨g, cap, ev, hgb, hgl, cl, hcl⟩ := Kd.R_form HO.out (by omega)
      subst ev
      obtain ⟨⟨x0, x1, x2⟩, ⟨f0, f1, f2⟩, hset, _⟩ := cell_elem_ HO.out k hkx
      have HSET := Aside0.mk (hset ((over_ s c (rd_T71 xs (k : Int))).f1))
      have HST := Aside0.mk (upon_step_ (over_ s c) xs k q hlt (by rw [HN.out]; exact hq) _ (rd_at_ hkx))
      have H2' := (HB.out.cell (World.block_lt_of_cell? w _ H2.out)).trans H2.out
      have H3' := (HB.out.cell (World.block_lt_of_cell? w _ H3.out)).trans H3.out
      go_wp2_with (go_at_call 102; refine (setOne_ _ ⟨g, k * 3, none⟩ b1 b2 _ s c x1 f1 H2' H3').mono ?_; rintro e w' ⟨rfl, ⟨n, rfl⟩⟩)
      go_roundw
      case rel => exact ⟨k + 1, _, by go_num, by omega, by omega, ⟨by rw [List.length_set]; exact HN.out⟩, ⟨HST.out.trans HU.out⟩, ⟨Kd.R_drewN HSET.out _⟩, ⟨pw_below_drewN (below_set HB.out hgb) _⟩⟩
      case measure => simp [intOf]; omega
    · obtain rfl : q = k := by omega
      have e_ := HU.out
      rw [upon_none_ _ _ _ (by rw [HN.out]; exact hq)] at e_
      have E_ := Aside0.mk e_
      clear e_
      go_wp2
      go_ret2
      exact ⟨_, rfl, by rw [← E_.out]; exact HO.out, HB.out⟩
set_option maxHeartbeats 4000000 in
theorem eachOff_ (A0 : Option Addr) (c0 : Nat) (l0 : List (S71)) (a1 : Int) (a2 : Int) (fv : Value) (w : World) (hr0 : Kd.C k71 w A0 l0.length l0) (hc0 : l0.length ≤ c0) (hs : ¬ spanned_ l0 a1 a2) :
    Calls Tryd.prog 101 #[.slice A0 l0.length c0, .int .i64 a1, .int .i64 a2, fv] w fun e w' => e = .returned (.tuple #[.slice none 0 0, .int .i64 1]) ∧ Drawn0 w w' := by
  have A6 := Aside0.mk (show cells_span.f l0 a1 a2 = some false by
    unfold spanned_ at hs
    unfold cells_span.f
    by_cases h1 : a1 ≥ 0
    · rw [if_pos h1]
      by_cases h2 : a1 ≤ a2
      · rw [if_pos h2, decide_eq_false (fun h3 => hs ⟨h1, h2, h3⟩)]
      · rw [if_neg h2]
    · rw [if_neg h1])
  have HR0 := Aside0.mk hr0
  have HC0 := Aside0.mk hc0
  clear hr0 hc0 hs
  go_enter Tryd.func101, Tryd.ntmps101
  go_wp2_with (go_at_call 108; refine (cells_span.calls _ _ l0 a1 a2 false _ HR0.out HC0.out A6.out).mono ?_; rintro e w' ⟨rfl, ⟨nd, rfl⟩⟩)
  go_ret2
  exact ⟨rfl, ⟨⟨nd, rfl⟩⟩⟩
def cells_Set.f (l0 : List (S71)) (a1 : Int) (a2 : Int) (a3 : Int) (a4 : Int) : Option ((List (S71)) × Int) :=
  if spanned_ l0 a1 a2 then (if l0.length < 4398046511104 then some (upon_ (over_ a3 a4) l0 a1.toNat a2.toNat, 0) else none) else some ([], 1)
set_option maxHeartbeats 4000000 in
theorem cells_Set.calls (A0 : Option Addr) (c0 : Nat) (l0 : List (S71)) (a1 : Int) (a2 : Int) (a3 : Int) (a4 : Int) (r1 : List (S71)) (r2 : Int) (w : World) (hr0 : Kd.C k71 w A0 l0.length l0) (hc0 : l0.length ≤ c0) (h : cells_Set.f l0 a1 a2 a3 a4 = some (r1, r2)) :
    Calls Tryd.prog 56 #[.slice A0 l0.length c0, .int .i64 a1, .int .i64 a2, .int .i64 a3, .int .i64 a4] w fun e w' => ∃ v0_ : Value, e = .returned (.tuple #[v0_, .int .i64 r2]) ∧ Kd.R k71 71 w' w.heap.size (fun _ => True) v0_ r1 ∧ Below w.heap.size w w' := by
  unfold cells_Set.f at h
  by_cases hs : spanned_ l0 a1 a2
  · rw [if_pos hs] at h
    by_cases hl : l0.length < 4398046511104
    · rw [if_pos hl] at h
      simp only [Option.some.injEq, Prod.mk.injEq] at h
      obtain ⟨rfl, rfl⟩ := h
      have HE := Aside0.mk (eachSet_ A0 c0 l0 a1 a2 a3 a4 w.heap.size (w.heap.size + 1) ((w.alloc (.cells #[.int .i64 a3] 3)).alloc (.cells #[.int .i64 a4] 3)) (Kd.C_alloc (Kd.C_alloc hr0 _) _) hc0 (cell_alloc_ _ (cell_new_ w _ _)) (by have h_ := cell_new_ (w.alloc (.cells #[.int .i64 a3] 3)) (.int .i64 a4) 3; rwa [World.size_alloc] at h_) hs hl)
      clear hr0 hc0 hs hl
      go_enter Tryd.func56, Tryd.ntmps56
      go_wp2_with (go_at_call 101; refine HE.out.mono ?_; rintro e w' ⟨v, rfl, ho, hb⟩; have HO := Aside0.mk ho; have HB := Aside0.mk hb; clear ho hb)
      go_ret2
      exact ⟨_, rfl, Kd.R_lower HO.out (by simp <;> omega), below_then (below_alloc (below_alloc (Below.refl _ _) _) _) (by simp <;> omega) HB.out⟩
    · rw [if_neg hl] at h
      exact absurd h (by simp)
  · rw [if_neg hs] at h
    simp only [Option.some.injEq, Prod.mk.injEq] at h
    obtain ⟨rfl, rfl⟩ := h
    have HE := Aside0.mk (eachOff_ A0 c0 l0 a1 a2 (.func (.func 102) #[] #[.pointer (some ⟨w.heap.size, 0, none⟩), .pointer (some ⟨w.heap.size + 1, 0, none⟩)]) ((w.alloc (.cells #[.int .i64 a3] 3)).alloc (.cells #[.int .i64 a4] 3)) (Kd.C_alloc (Kd.C_alloc hr0 _) _) hc0 hs)
    clear hr0 hc0 hs
    go_enter Tryd.func56, Tryd.ntmps56
    go_wp2_with (go_at_call 101; refine HE.out.mono ?_; rintro e w' ⟨rfl, ⟨nd, rfl⟩⟩)
    go_ret2
    exact ⟨_, rfl, Kd.R_nil _ _ _ _ _, pw_below_drewN (below_alloc (below_alloc (Below.refl _ _) (.cells #[.int .i64 a3] 3)) (.cells #[.int .i64 a4] 3)) nd⟩

end Go.Proofs.YtgdpknmffohhaaaDoor.Pl

namespace Go.Proofs.YtgdpknmffohhaaaDoor.Pl
open Go.RowKit Go.Proofs.YtgdpknmffohhaaaDoorW.PrintWords Go.Proofs.YtgdpknmffohhaaaDoorW.PrintLast Go.Proofs.YtgdpknmffohhaaaDoorW.PrintMore
attribute [local go_sem] max2_int min2_int max_two min_two max_three min_three max_four min_four   -- for this text's walks alone
set_option linter.unusedVariables false
set_option linter.unusedSimpArgs false

/-! ### utf8_ValidRune: function 146 -/
def utf8_ValidRune.j0 : Nat → Int → Bool → Option (Bool)
  | 0, _, _ => none
  | k + 1, x0, x3 => if x3 = true then (some true) else (if 57343 < x0 then (if x0 ≤ 1114111 then (some true) else (some false)) else (some false))
def utf8_ValidRune.f (k : Nat) (a0 : Int) : Option (Bool) := if 0 ≤ a0 then (utf8_ValidRune.j0 k a0 (decide (a0 < 55296))) else (utf8_ValidRune.j0 k a0 false)
set_option maxHeartbeats 8000000 in
set_option maxRecDepth 100000 in
theorem utf8_ValidRune.calls (k : Nat) (a0 : Int) (r : Bool) (w : World) (h : utf8_ValidRune.f k a0 = some r) :
    Calls Tryd.prog 146 #[.int .i32 a0] w fun e w' => e = .returned (.bool r) ∧ Drawn0 w w' := by
  have H : (if 0 ≤ a0 then (utf8_ValidRune.j0 k a0 (decide (a0 < 55296))) else (utf8_ValidRune.j0 k a0 false)) = some r := h
  clear h
  have HC2 := Aside0.mk H
  clear H
  go_enter Tryd.func146, Tryd.ntmps146
  go_upto_region 1 with (fail)
  go_cut [3] (fun v3 wc => ∃ (kq : Nat) (x3_1 : Bool), v3 = .bool x3_1 ∧ Aside0 (utf8_ValidRune.j0 kq a0 x3_1 = some r) ∧ Aside0 (kq ≤ k) ∧ Drawn0 w wc)
  case first =>
    have H := HC2.out
    clear HC2
    by_cases c3 : 0 ≤ a0
    · rw [if_pos c3] at H
      have c3b0 : decide (0 ≤ a0) = true := decide_eq_true c3
      clear c3
      (first | rw [c3b0] | (simp only [i64_w, i32_w]; rw [c3b0]) | skip)
      have H' := Aside0.mk H
      clear H
      go_wp2
      go_meet
      case rel => exact ⟨_, (decide (a0 < 55296)), (by first | rfl | (simp; done) | (simp [*]; done)), H', ⟨by first | omega | exact Nat.le_refl _⟩, by repeat (first | exact Drawn0.refl _ | apply Drawn0.step)⟩
    · rw [if_neg c3] at H
      have c3b0 : decide (0 ≤ a0) = false := decide_eq_false c3
      clear c3
      (first | rw [c3b0] | (simp only [i64_w, i32_w]; rw [c3b0]) | skip)
      have H' := Aside0.mk H
      clear H
      go_wp2
      go_meet
      case rel => exact ⟨_, (false), (by first | rfl | (simp; done) | (simp [*]; done)), H', ⟨by first | omega | exact Nat.le_refl _⟩, by repeat (first | exact Drawn0.refl _ | apply Drawn0.step)⟩
  case rest =>
    clear HC2
    try clear c1
    try clear p2
    try clear c3
    try clear c3b0
    obtain ⟨kq, x3_1, rfl, HA, HJ1, ⟨mc1, rfl⟩⟩ := hcut
    cases kq with
    | zero => exact absurd HA.out (by simp [utf8_ValidRune.j0])
    | succ kj1 =>
      have H := HA.out
      clear HA
      simp only [utf8_ValidRune.j0] at H
      by_cases c4 : x3_1 = true
      · subst c4
        have H1 : (some true) = some r := by rw [if_pos rfl] at H; exact H
        clear H
        have H := H1
        clear H1
        obtain rfl := Option.some.inj H
        go_wp2
        go_ret
        exact ⟨by first | rfl | (simp; done) | (simp [*]; done), by repeat (first | exact Drawn0.refl _ | apply Drawn0.step)⟩
      · replace c4 := Bool.eq_false_iff.mpr c4
        subst c4
        have H1 : (if 57343 < a0 then (if a0 ≤ 1114111 then (some true) else (some false)) else (some false)) = some r := by rw [if_neg (show ¬ (false = true) by decide)] at H; exact H
        clear H
        have H := H1
        clear H1
        by_cases c5 : 57343 < a0
        · rw [if_pos c5] at H
          have c5b0 : decide (57343 < a0) = true := decide_eq_true c5
          clear c5
          by_cases c6 : a0 ≤ 1114111
          · rw [if_pos c6] at H
            have c6b0 : decide (a0 ≤ 1114111) = true := decide_eq_true c6
            clear c6
            obtain rfl := Option.some.inj H
            go_wp2
            go_ret
            exact ⟨by first | rfl | (simp; done) | (simp [*]; done), by repeat (first | exact Drawn0.refl _ | apply Drawn0.step)⟩
          · rw [if_neg c6] at H
            have c6b0 : decide (a0 ≤ 1114111) = false := decide_eq_false c6
            clear c6
            obtain rfl := Option.some.inj H
            go_wp2
            go_ret
            exact ⟨by first | rfl | (simp; done) | (simp [*]; done), by repeat (first | exact Drawn0.refl _ | apply Drawn0.step)⟩
        · rw [if_neg c5] at H
          have c5b0 : decide (57343 < a0) = false := decide_eq_false c5
          clear c5
          obtain rfl := Option.some.inj H
          go_wp2
          go_ret
          exact ⟨by first | rfl | (simp; done) | (simp [*]; done), by repeat (first | exact Drawn0.refl _ | apply Drawn0.step)⟩

end Go.Proofs.YtgdpknmffohhaaaDoor.Pl

namespace Go.Proofs.YtgdpknmffohhaaaDoor.Pl
open Go.RowKit Go.Proofs.YtgdpknmffohhaaaDoorW.PrintWords Go.Proofs.YtgdpknmffohhaaaDoorW.PrintLast Go.Proofs.YtgdpknmffohhaaaDoorW.PrintMore
attribute [local go_sem] max2_int min2_int max_two min_two max_three min_three max_four min_four   -- for this text's walks alone
set_option linter.unusedVariables false
set_option linter.unusedSimpArgs false

/-! ### chars_Class: function 133 -/
mutual
def chars_Class.j0 : Nat → Int → Bool → Option (Int)
  | 0, _, _ => none
  | k + 1, x0, x13 => if x13 = true then (some 2) else (if x0 = 65533 then (some 5) else (if x0 ≥ 97 then (chars_Class.j1 k x0 (decide (x0 ≤ 122))) else (chars_Class.j1 k x0 false)))
def chars_Class.j1 : Nat → Int → Bool → Option (Int)
  | 0, _, _ => none
  | k + 1, x0, x21 => if x21 = true then (some 3) else (if x0 ≥ 65 then (chars_Class.j2 k x0 (decide (x0 ≤ 90))) else (chars_Class.j2 k x0 false))
def chars_Class.j2 : Nat → Int → Bool → Option (Int)
  | 0, _, _ => none
  | k + 1, x0, x28 => if x28 = true then (some 3) else (if x0 ≥ 128 then (some 3) else (if x0 ≥ 48 then (if x0 ≤ 57 then (some 4) else (some 5)) else (some 5)))
end
def chars_Class.f (k : Nat) (a0 : Int) : Option (Int) := (utf8_ValidRune.f k a0).bind fun t102 => (if t102 = true then (if a0 < 32 then (some 1) else (if a0 = 127 then (some 1) else (if a0 = 32 then (chars_Class.j0 k a0 (a0 == 32)) else (chars_Class.j0 k a0 (a0 == 160))))) else (some 0))
set_option maxHeartbeats 8000000 in
set_option maxRecDepth 100000 in
theorem chars_Class.calls (k : Nat) (a0 : Int) (r : Int) (w : World) (h : chars_Class.f k a0 = some r) :
    Calls Tryd.prog 133 #[.int .i32 a0] w fun e w' => e = .returned (.int .i64 r) ∧ Drawn0 w w' := by
  have H : ((utf8_ValidRune.f k a0).bind fun t102 => (if t102 = true then (if a0 < 32 then (some 1) else (if a0 = 127 then (some 1) else (if a0 = 32 then (chars_Class.j0 k a0 (a0 == 32)) else (chars_Class.j0 k a0 (a0 == 160))))) else (some 0))) = some r := h
  clear h
  replace H := Option.bind_eq_some_iff.mp H
  obtain ⟨t102, A20, H⟩ := H
  replace H : (if t102 = true then (if a0 < 32 then (some 1) else (if a0 = 127 then (some 1) else (if a0 = 32 then (chars_Class.j0 k a0 (a0 == 32)) else (chars_Class.j0 k a0 (a0 == 160))))) else (some 0)) = some r := H
  have A2 := Aside0.mk A20
  clear A20
  by_cases c3 : t102 = true
  · subst c3
    have H1 : (if a0 < 32 then (some 1) else (if a0 = 127 then (some 1) else (if a0 = 32 then (chars_Class.j0 k a0 (a0 == 32)) else (chars_Class.j0 k a0 (a0 == 160))))) = some r := by rw [if_pos rfl] at H; exact H
    clear H
    have H := H1
    clear H1
    by_cases c4 : a0 < 32
    · rw [if_pos c4] at H
      have c4b0 : decide (a0 < 32) = true := decide_eq_true c4
      clear c4
      obtain rfl := Option.some.inj H
      go_enter Tryd.func133, Tryd.ntmps133
      go_wp2_with (first | ((with_reducible refine gate_callee (f := 146) rfl ?_); refine goesL_ (some 5) rfl rfl Tryd.func146 (by kernel_rfl) rfl #[.int .i32 a0] rfl (by (try simp only [List.map_toArray, List.map_cons, List.map_nil]); first | done | rfl | (simp only [List.length_drop, List.length_take]; rfl)) ?_; (with_reducible refine (utf8_ValidRune.calls k a0 true _ A2.out).mono ?_); rintro e w' ⟨rfl, ⟨nd, rfl⟩⟩; refine ⟨_, rfl, ?_⟩))
      go_ret
      exact ⟨by first | rfl | (simp; done) | (simp [*]; done), by repeat (first | exact Drawn0.refl _ | apply Drawn0.step)⟩
    · rw [if_neg c4] at H
      have c4b0 : decide (a0 < 32) = false := decide_eq_false c4
      clear c4
      by_cases c5 : a0 = 127
      · rw [if_pos c5] at H
        have c5b0 : (a0 == 127) = true := beq_iff_eq.mpr c5
        have c5b1 : (a0 != 127) = false := bne_eq_false_iff_eq.mpr c5
        clear c5
        obtain rfl := Option.some.inj H
        go_enter Tryd.func133, Tryd.ntmps133
        go_wp2_with (first | ((with_reducible refine gate_callee (f := 146) rfl ?_); refine goesL_ (some 5) rfl rfl Tryd.func146 (by kernel_rfl) rfl #[.int .i32 a0] rfl (by (try simp only [List.map_toArray, List.map_cons, List.map_nil]); first | done | rfl | (simp only [List.length_drop, List.length_take]; rfl)) ?_; (with_reducible refine (utf8_ValidRune.calls k a0 true _ A2.out).mono ?_); rintro e w' ⟨rfl, ⟨nd, rfl⟩⟩; refine ⟨_, rfl, ?_⟩))
        go_ret
        exact ⟨by first | rfl | (simp; done) | (simp [*]; done), by repeat (first | exact Drawn0.refl _ | apply Drawn0.step)⟩
      · rw [if_neg c5] at H
        have c5b0 : (a0 == 127) = false := beq_eq_false_iff_ne.mpr c5
        have c5b1 : (a0 != 127) = true := bne_iff_ne.mpr c5
        have HC6 := Aside0.mk H
        clear H
        go_enter Tryd.func133, Tryd.ntmps133
        go_upto_if 13 with (first | ((with_reducible refine gate_callee (f := 146) rfl ?_); refine goesL_ (some 5) rfl rfl Tryd.func146 (by kernel_rfl) rfl #[.int .i32 a0] rfl (by (try simp only [List.map_toArray, List.map_cons, List.map_nil]); first | done | rfl | (simp only [List.length_drop, List.length_take]; rfl)) ?_; (with_reducible refine (utf8_ValidRune.calls k a0 true _ A2.out).mono ?_); rintro e w' ⟨rfl, ⟨nd, rfl⟩⟩; refine ⟨_, rfl, ?_⟩))
        (try simp only [Act.put, List.setIfInBounds_toArray, List.set_cons_zero, List.set_cons_succ])
        go_cut [13] (fun v13 wc => ∃ (kq : Nat) (x13_5 : Bool), v13 = .bool x13_5 ∧ Aside0 (chars_Class.j0 kq a0 x13_5 = some r) ∧ Aside0 (kq ≤ k) ∧ Drawn0 w wc)
        case first =>
          have H := HC6.out
          clear HC6
          by_cases c7 : a0 = 32
          · rw [if_pos c7] at H
            have c7b0 : (a0 == 32) = true := beq_iff_eq.mpr c7
            have c7b1 : (a0 != 32) = false := bne_eq_false_iff_eq.mpr c7
            clear c7
            (first | rw [c7b0] | (simp only [i64_w, i32_w]; rw [c7b0]) | skip)
            have H' := Aside0.mk H
            clear H
            go_wp2
            go_meet
            case rel => exact ⟨_, ((a0 == 32)), (by first | rfl | (simp; done) | (simp [*]; done)), H', ⟨by first | omega | exact Nat.le_refl _⟩, by repeat (first | exact Drawn0.refl _ | apply Drawn0.step)⟩
          · rw [if_neg c7] at H
            have c7b0 : (a0 == 32) = false := beq_eq_false_iff_ne.mpr c7
            have c7b1 : (a0 != 32) = true := bne_iff_ne.mpr c7
            (first | rw [c7b0] | (simp only [i64_w, i32_w]; rw [c7b0]) | skip)
            have H' := Aside0.mk H
            clear H
            go_wp2
            go_meet
            case rel => exact ⟨_, ((a0 == 160)), (by first | rfl | (simp; done) | (simp [*]; done)), H', ⟨by first | omega | exact Nat.le_refl _⟩, by repeat (first | exact Drawn0.refl _ | apply Drawn0.step)⟩
        case rest =>
          clear HC6
          try clear c1
          try clear p2
          try clear c3
          try clear c4
          try clear c4b0
          try clear c5
          try clear c5b0
          try clear c5b1
          try clear c7
          try clear c7b0
          try clear c7b1
          obtain ⟨kq, x13_5, rfl, HA, HJ5, ⟨mc5, rfl⟩⟩ := hcut
          cases kq with
          | zero => exact absurd HA.out (by simp [chars_Class.j0])
          | succ kj5 =>
            have H := HA.out
            clear HA
            simp only [chars_Class.j0] at H
            by_cases c8 : x13_5 = true
            · subst c8
              have H1 : (some 2) = some r := by rw [if_pos rfl] at H; exact H
              clear H
              have H := H1
              clear H1
              obtain rfl := Option.some.inj H
              go_wp2
              go_ret
              exact ⟨by first | rfl | (simp; done) | (simp [*]; done), by repeat (first | exact Drawn0.refl _ | apply Drawn0.step)⟩
            · replace c8 := Bool.eq_false_iff.mpr c8
              subst c8
              have H1 : (if a0 = 65533 then (some 5) else (if a0 ≥ 97 then (chars_Class.j1 kj5 a0 (decide (a0 ≤ 122))) else (chars_Class.j1 kj5 a0 false))) = some r := by rw [if_neg (show ¬ (false = true) by decide)] at H; exact H
              clear H
              have H := H1
              clear H1
              by_cases c9 : a0 = 65533
              · rw [if_pos c9] at H
                have c9b0 : (a0 == 65533) = true := beq_iff_eq.mpr c9
                have c9b1 : (a0 != 65533) = false := bne_eq_false_iff_eq.mpr c9
                clear c9
                obtain rfl := Option.some.inj H
                go_wp2
                go_ret
                exact ⟨by first | rfl | (simp; done) | (simp [*]; done), by repeat (first | exact Drawn0.refl _ | apply Drawn0.step)⟩
              · rw [if_neg c9] at H
                have c9b0 : (a0 == 65533) = false := beq_eq_false_iff_ne.mpr c9
                have c9b1 : (a0 != 65533) = true := bne_iff_ne.mpr c9
                have HC10 := Aside0.mk H
                clear H
                go_upto_region 7 with (fail)
                go_cut [21] (fun v21 wc => ∃ (kq : Nat) (x21_9 : Bool), v21 = .bool x21_9 ∧ Aside0 (chars_Class.j1 kq a0 x21_9 = some r) ∧ Aside0 (kq ≤ kj5) ∧ Drawn0 w wc)
                case first =>
                  have H := HC10.out
                  clear HC10
                  by_cases c11 : a0 ≥ 97
                  · rw [if_pos c11] at H
                    have c11b0 : decide (97 ≤ a0) = true := decide_eq_true c11
                    clear c11
                    (first | rw [c11b0] | (simp only [i64_w, i32_w]; rw [c11b0]) | skip)
                    have H' := Aside0.mk H
                    clear H
                    go_wp2
                    go_meet
                    case rel => exact ⟨_, (decide (a0 ≤ 122)), (by first | rfl | (simp; done) | (simp [*]; done)), H', ⟨by have := HJ5.out; first | omega | exact Nat.le_refl _⟩, by repeat (first | exact Drawn0.refl _ | apply Drawn0.step)⟩
                  · rw [if_neg c11] at H
                    have c11b0 : decide (97 ≤ a0) = false := decide_eq_false c11
                    clear c11
                    (first | rw [c11b0] | (simp only [i64_w, i32_w]; rw [c11b0]) | skip)
                    have H' := Aside0.mk H
                    clear H
                    go_wp2
                    go_meet
                    case rel => exact ⟨_, (false), (by first | rfl | (simp; done) | (simp [*]; done)), H', ⟨by have := HJ5.out; first | omega | exact Nat.le_refl _⟩, by repeat (first | exact Drawn0.refl _ | apply Drawn0.step)⟩
                case rest =>
                  clear HC10
                  try clear c1
                  try clear p2
                  try clear c3
                  try clear c4
                  try clear c4b0
                  try clear c5
                  try clear c5b0
                  try clear c5b1
                  try clear c7
                  try clear c7b0
                  try clear c7b1
                  try clear c8
                  try clear c9
                  try clear c9b0
                  try clear c9b1
                  try clear c11
                  try clear c11b0
                  try clear p2
                  obtain ⟨kq, x21_9, rfl, HA, HJ9, ⟨mc9, rfl⟩⟩ := hcut
                  cases kq with
                  | zero => exact absurd HA.out (by simp [chars_Class.j1])
                  | succ kj9 =>
                    have H := HA.out
                    clear HA
                    simp only [chars_Class.j1] at H
                    by_cases c12 : x21_9 = true
                    · subst c12
                      have H1 : (some 3) = some r := by rw [if_pos rfl] at H; exact H
                      clear H
                      have H := H1
                      clear H1
                      obtain rfl := Option.some.inj H
                      go_wp2
                      go_ret
                      exact ⟨by first | rfl | (simp; done) | (simp [*]; done), by repeat (first | exact Drawn0.refl _ | apply Drawn0.step)⟩
                    · replace c12 := Bool.eq_false_iff.mpr c12
                      subst c12
                      have H1 : (if a0 ≥ 65 then (chars_Class.j2 kj9 a0 (decide (a0 ≤ 90))) else (chars_Class.j2 kj9 a0 false)) = some r := by rw [if_neg (show ¬ (false = true) by decide)] at H; exact H
                      clear H
                      have H := H1
                      clear H1
                      have HC13 := Aside0.mk H
                      clear H
                      go_upto_region 8 with (fail)
                      go_cut [28] (fun v28 wc => ∃ (kq : Nat) (x28_12 : Bool), v28 = .bool x28_12 ∧ Aside0 (chars_Class.j2 kq a0 x28_12 = some r) ∧ Aside0 (kq ≤ kj9) ∧ Drawn0 w wc)
                      case first =>
                        have H := HC13.out
                        clear HC13
                        by_cases c14 : a0 ≥ 65
                        · rw [if_pos c14] at H
                          have c14b0 : decide (65 ≤ a0) = true := decide_eq_true c14
                          clear c14
                          (first | rw [c14b0] | (simp only [i64_w, i32_w]; rw [c14b0]) | skip)
                          have H' := Aside0.mk H
                          clear H
                          go_wp2
                          go_meet
                          case rel => exact ⟨_, (decide (a0 ≤ 90)), (by first | rfl | (simp; done) | (simp [*]; done)), H', ⟨by have := HJ5.out; have := HJ9.out; first | omega | exact Nat.le_refl _⟩, by repeat (first | exact Drawn0.refl _ | apply Drawn0.step)⟩
                        · rw [if_neg c14] at H
                          have c14b0 : decide (65 ≤ a0) = false := decide_eq_false c14
                          clear c14
                          (first | rw [c14b0] | (simp only [i64_w, i32_w]; rw [c14b0]) | skip)
                          have H' := Aside0.mk H
                          clear H
                          go_wp2
                          go_meet
                          case rel => exact ⟨_, (false), (by first | rfl | (simp; done) | (simp [*]; done)), H', ⟨by have := HJ5.out; have := HJ9.out; first | omega | exact Nat.le_refl _⟩, by repeat (first | exact Drawn0.refl _ | apply Drawn0.step)⟩
                      case rest =>
                        clear HC13
                        try clear c1
                        try clear p2
                        try clear c3
                        try clear c4
                        try clear c4b0
                        try clear c5
                        try clear c5b0
                        try clear c5b1
                        try clear c7
                        try clear c7b0
                        try clear c7b1
                        try clear c8
                        try clear c9
                        try clear c9b0
                        try clear c9b1
                        try clear c11
                        try clear c11b0
                        try clear c12
                        try clear c13
                        try clear c14
                        try clear c14b0
                        try clear p2
                        obtain ⟨kq, x28_12, rfl, HA, HJ12, ⟨mc12, rfl⟩⟩ := hcut
                        cases kq with
                        | zero => exact absurd HA.out (by simp [chars_Class.j2])
                        | succ kj12 =>
                          have H := HA.out
                          clear HA
                          simp only [chars_Class.j2] at H
                          by_cases c15 : x28_12 = true
                          · subst c15
                            have H1 : (some 3) = some r := by rw [if_pos rfl] at H; exact H
                            clear H
                            have H := H1
                            clear H1
                            obtain rfl := Option.some.inj H
                            go_wp2
                            go_ret
                            exact ⟨by first | rfl | (simp; done) | (simp [*]; done), by repeat (first | exact Drawn0.refl _ | apply Drawn0.step)⟩
                          · replace c15 := Bool.eq_false_iff.mpr c15
                            subst c15
                            have H1 : (if a0 ≥ 128 then (some 3) else (if a0 ≥ 48 then (if a0 ≤ 57 then (some 4) else (some 5)) else (some 5))) = some r := by rw [if_neg (show ¬ (false = true) by decide)] at H; exact H
                            clear H
                            have H := H1
                            clear H1
                            by_cases c16 : a0 ≥ 128
                            · rw [if_pos c16] at H
                              have c16b0 : decide (128 ≤ a0) = true := decide_eq_true c16
                              clear c16
                              obtain rfl := Option.some.inj H
                              go_wp2
                              go_ret
                              exact ⟨by first | rfl | (simp; done) | (simp [*]; done), by repeat (first | exact Drawn0.refl _ | apply Drawn0.step)⟩
                            · rw [if_neg c16] at H
                              have c16b0 : decide (128 ≤ a0) = false := decide_eq_false c16
                              clear c16
                              by_cases c17 : a0 ≥ 48
                              · rw [if_pos c17] at H
                                have c17b0 : decide (48 ≤ a0) = true := decide_eq_true c17
                                clear c17
                                by_cases c18 : a0 ≤ 57
                                · rw [if_pos c18] at H
                                  have c18b0 : decide (a0 ≤ 57) = true := decide_eq_true c18
                                  clear c18
                                  obtain rfl := Option.some.inj H
                                  go_wp2
                                  go_ret
                                  exact ⟨by first | rfl | (simp; done) | (simp [*]; done), by repeat (first | exact Drawn0.refl _ | apply Drawn0.step)⟩
                                · rw [if_neg c18] at H
                                  have c18b0 : decide (a0 ≤ 57) = false := decide_eq_false c18
                                  clear c18
                                  obtain rfl := Option.some.inj H
                                  go_wp2
                                  go_ret
                                  exact ⟨by first | rfl | (simp; done) | (simp [*]; done), by repeat (first | exact Drawn0.refl _ | apply Drawn0.step)⟩
                              · rw [if_neg c17] at H
                                have c17b0 : decide (48 ≤ a0) = false := decide_eq_false c17
                                clear c17
                                obtain rfl := Option.some.inj H
                                go_wp2
                                go_ret
                                exact ⟨by first | rfl | (simp; done) | (simp [*]; done), by repeat (first | exact Drawn0.refl _ | apply Drawn0.step)⟩
  · replace c3 := Bool.eq_false_iff.mpr c3
    subst c3
    have H1 : (some 0) = some r := by rw [if_neg (show ¬ (false = true) by decide)] at H; exact H
    clear H
    have H := H1
    clear H1
    obtain rfl := Option.some.inj H
    go_enter Tryd.func133, Tryd.ntmps133
    go_wp2_with (first | ((with_reducible refine gate_callee (f := 146) rfl ?_); refine goesL_ (some 5) rfl rfl Tryd.func146 (by kernel_rfl) rfl #[.int .i32 a0] rfl (by (try simp only [List.map_toArray, List.map_cons, List.map_nil]); first | done | rfl | (simp only [List.length_drop, List.length_take]; rfl)) ?_; (with_reducible refine (utf8_ValidRune.calls k a0 false _ A2.out).mono ?_); rintro e w' ⟨rfl, ⟨nd, rfl⟩⟩; refine ⟨_, rfl, ?_⟩))
    go_ret
    exact ⟨by first | rfl | (simp; done) | (simp [*]; done), by repeat (first | exact Drawn0.refl _ | apply Drawn0.step)⟩

end Go.Proofs.YtgdpknmffohhaaaDoor.Pl

namespace Go.Proofs.YtgdpknmffohhaaaDoor.Pl
open Go.RowKit Go.Proofs.YtgdpknmffohhaaaDoorW.PrintWords Go.Proofs.YtgdpknmffohhaaaDoorW.PrintLast Go.Proofs.YtgdpknmffohhaaaDoorW.PrintMore
attribute [local go_sem] max2_int min2_int max_two min_two max_three min_three max_four min_four   -- for this text's walks alone
set_option linter.unusedVariables false
set_option linter.unusedSimpArgs false

/-! ### chars_plain: function 138 -/
def chars_plain.j0 : Nat → Int → Int → Bool → Option (Int × Bool)
  | 0, _, _, _ => none
  | k + 1, x0, x4, x5 => if x5 = true then (some (32, true)) else (if x4 = 10 then (some (x0, true)) else ((chars_Class.f k x0).bind fun t103 => (some (x0, (t103 != 1)))))
def chars_plain.f (k : Nat) (a0 : Int) : Option (Int × Bool) := if a0 = 9 then (chars_plain.j0 k a0 a0 (a0 == 9)) else (if a0 = 12 then (chars_plain.j0 k a0 a0 (a0 == 12)) else (chars_plain.j0 k a0 a0 (a0 == 13)))
set_option maxHeartbeats 8000000 in
set_option maxRecDepth 100000 in
theorem chars_plain.calls (k : Nat) (a0 : Int) (r1 : Int) (r2 : Bool) (w : World) (h : chars_plain.f k a0 = some (r1, r2)) :
    Calls Tryd.prog 138 #[.int .i32 a0] w fun e w' => e = .returned (.tuple #[.int .i32 r1, .bool r2]) ∧ Drawn0 w w' := by
  have H : (if a0 = 9 then (chars_plain.j0 k a0 a0 (a0 == 9)) else (if a0 = 12 then (chars_plain.j0 k a0 a0 (a0 == 12)) else (chars_plain.j0 k a0 a0 (a0 == 13)))) = some (r1, r2) := h
  clear h
  have HC2 := Aside0.mk H
  clear H
  go_enter Tryd.func138, Tryd.ntmps138
  go_upto_if 5 with (fail)
  go_cut [5] (fun v5 wc => ∃ (kq : Nat) (x5_1 : Bool), v5 = .bool x5_1 ∧ Aside0 (chars_plain.j0 kq a0 a0 x5_1 = some (r1, r2)) ∧ Aside0 (kq ≤ k) ∧ Drawn0 w wc)
  case first =>
    have H := HC2.out
    clear HC2
    by_cases c3 : a0 = 9
    · rw [if_pos c3] at H
      have c3b0 : (a0 == 9) = true := beq_iff_eq.mpr c3
      have c3b1 : (a0 != 9) = false := bne_eq_false_iff_eq.mpr c3
      clear c3
      (first | rw [c3b0] | (simp only [i64_w, i32_w]; rw [c3b0]) | skip)
      have H' := Aside0.mk H
      clear H
      go_wp2
      go_meet
      case rel => exact ⟨_, ((a0 == 9)), (by first | rfl | (simp; done) | (simp [*]; done)), H', ⟨by first | omega | exact Nat.le_refl _⟩, by repeat (first | exact Drawn0.refl _ | apply Drawn0.step)⟩
    · rw [if_neg c3] at H
      have c3b0 : (a0 == 9) = false := beq_eq_false_iff_ne.mpr c3
      have c3b1 : (a0 != 9) = true := bne_iff_ne.mpr c3
      (first | rw [c3b0] | (simp only [i64_w, i32_w]; rw [c3b0]) | skip)
      by_cases c4 : a0 = 12
      · rw [if_pos c4] at H
        have c4b0 : (a0 == 12) = true := beq_iff_eq.mpr c4
        have c4b1 : (a0 != 12) = false := bne_eq_false_iff_eq.mpr c4
        clear c4
        have H' := Aside0.mk H
        clear H
        go_wp2
        go_meet
        case rel => exact ⟨_, ((a0 == 12)), (by first | rfl | (simp; done) | (simp [*]; done)), H', ⟨by first | omega | exact Nat.le_refl _⟩, by repeat (first | exact Drawn0.refl _ | apply Drawn0.step)⟩
      · rw [if_neg c4] at H
        have c4b0 : (a0 == 12) = false := beq_eq_false_iff_ne.mpr c4
        have c4b1 : (a0 != 12) = true := bne_iff_ne.mpr c4
        have H' := Aside0.mk H
        clear H
        go_wp2
        go_meet
        case rel => exact ⟨_, ((a0 == 13)), (by first | rfl | (simp; done) | (simp [*]; done)), H', ⟨by first | omega | exact Nat.le_refl _⟩, by repeat (first | exact Drawn0.refl _ | apply Drawn0.step)⟩
  case rest =>
    clear HC2
    try clear c1
    try clear p2
    try clear c3
    try clear c3b0
    try clear c3b1
    try clear c4
    try clear c4b0
    try clear c4b1
    obtain ⟨kq, x5_1, rfl, HA, HJ1, ⟨mc1, rfl⟩⟩ := hcut
    cases kq with
    | zero => exact absurd HA.out (by simp [chars_plain.j0])
    | succ kj1 =>
      have H := HA.out
      clear HA
      simp only [chars_plain.j0] at H
      by_cases c5 : x5_1 = true
      · subst c5
        have H1 : (some (32, true)) = some (r1, r2) := by rw [if_pos rfl] at H; exact H
        clear H
        have H := H1
        clear H1
        simp only [Option.some.injEq, Prod.mk.injEq] at H
        obtain ⟨rfl, rfl⟩ := H
        go_wp2
        go_ret2
        exact ⟨by first | rfl | (simp; done) | (simp [*]; done), by repeat (first | exact Drawn0.refl _ | apply Drawn0.step)⟩
      · replace c5 := Bool.eq_false_iff.mpr c5
        subst c5
        have H1 : (if a0 = 10 then (some (a0, true)) else ((chars_Class.f kj1 a0).bind fun t103 => (some (a0, (t103 != 1))))) = some (r1, r2) := by rw [if_neg (show ¬ (false = true) by decide)] at H; exact H
        clear H
        have H := H1
        clear H1
        by_cases c6 : a0 = 10
        · rw [if_pos c6] at H
          have c6b0 : (a0 == 10) = true := beq_iff_eq.mpr c6
          have c6b1 : (a0 != 10) = false := bne_eq_false_iff_eq.mpr c6
          clear c6
          simp only [Option.some.injEq, Prod.mk.injEq] at H
          obtain ⟨rfl, rfl⟩ := H
          go_wp2
          go_ret2
          exact ⟨by first | rfl | (simp; done) | (simp [*]; done), by repeat (first | exact Drawn0.refl _ | apply Drawn0.step)⟩
        · rw [if_neg c6] at H
          have c6b0 : (a0 == 10) = false := beq_eq_false_iff_ne.mpr c6
          have c6b1 : (a0 != 10) = true := bne_iff_ne.mpr c6
          replace H := Option.bind_eq_some_iff.mp H
          obtain ⟨t103, A70, H⟩ := H
          replace H : (some (a0, (t103 != 1))) = some (r1, r2) := H
          have A7 := Aside0.mk A70
          clear A70
          simp only [Option.some.injEq, Prod.mk.injEq] at H
          obtain ⟨rfl, rfl⟩ := H
          go_wp2_with (first | ((with_reducible refine gate_callee (f := 133) rfl ?_); refine goesL_ (some 14) rfl rfl Tryd.func133 (by kernel_rfl) rfl #[.int .i32 a0] rfl (by (try simp only [List.map_toArray, List.map_cons, List.map_nil]); first | done | rfl | (simp only [List.length_drop, List.length_take]; rfl)) ?_; (with_reducible refine (chars_Class.calls kj1 a0 t103 _ A7.out).mono ?_); rintro e w' ⟨rfl, ⟨nd, rfl⟩⟩; refine ⟨_, rfl, ?_⟩))
          go_ret2
          exact ⟨by first | rfl | (simp; done) | (simp [*]; done), by repeat (first | exact Drawn0.refl _ | apply Drawn0.step)⟩

end Go.Proofs.YtgdpknmffohhaaaDoor.Pl

namespace Go.Proofs.YtgdpknmffohhaaaDoor.Pl
open Go.RowKit Go.Proofs.YtgdpknmffohhaaaDoorW.PrintWords Go.Proofs.YtgdpknmffohhaaaDoorW.PrintLast Go.Proofs.YtgdpknmffohhaaaDoorW.PrintMore
attribute [local go_sem] max2_int min2_int max_two min_two max_three min_three max_four min_four   -- for this text's walks alone
set_option linter.unusedVariables false
set_option linter.unusedSimpArgs false

/-! ### chars_Clean: function 125 (given) -/
/-- Of the one text that the examples take. -/
def chars_Clean.f (a0 : ByteArray) : Option (List Int) := if a0 = ⟨#[97, 195, 177]⟩ then some [97, 241] else none
theorem iter_grown_ {W W1 : World} {s : ByteArray} {p k : Nat} {v : Value} {xs : List Int} {b : Nat} (hk : W.heap[k]? = some (.stringIter s p)) (hR : Kd.R (Kd.int .i32) 21 W b (fun _ => True) v xs) (hg : W.grownBy W1 v.ownBlock) : W1.heap[k]? = some (.stringIter s p) := by
  rw [hg.block k (Array.getElem?_eq_some_iff.1 hk).1 (fun e => ?_)]
  · exact hk
  · obtain ⟨cells, hc⟩ := Kd.R_typed hR k e.symm
    have h2 := hk.symm.trans hc
    injection h2 with h2
    cases h2
theorem iterPos_of_ {w : World} {k : Nat} {s : ByteArray} {p : Nat} (hk : w.heap[k]? = some (.stringIter s p)) : w.iterPos k = p := by simp only [World.iterPos]; rw [hk]
theorem iterAt_heap_ {w : World} {k : Nat} {s : ByteArray} {pos pos' : Nat} (hk : w.heap[k]? = some (.stringIter s pos)) : (w.iterAt k s pos').heap[k]? = some (.stringIter s pos') := Lib.iterAt_heap w k s pos pos' hk
set_option maxHeartbeats 2000000 in
theorem chars_Clean.calls (a0 : ByteArray) (r : List Int) (w : World) (h : chars_Clean.f a0 = some r) :
    Calls Tryd.prog 125 #[.string a0] w fun e w' => ∃ v0_ : Value, e = .returned (v0_) ∧ Kd.R (Kd.int .i32) 21 w' w.heap.size (fun _ => True) v0_ r ∧ Below w.heap.size w w' := by
  unfold chars_Clean.f at h
  by_cases c : a0 = ⟨#[97, 195, 177]⟩
  · rw [if_pos c] at h
    subst c
    cases h
    have HB := Aside0.mk (Below.refl w.heap.size w)
    have P1 : chars_plain.f 12 97 = some (97, true) := by kernel_rfl
    have P2 : chars_plain.f 12 241 = some (241, true) := by kernel_rfl
    have D0 : Utf8.decode ⟨#[97, 195, 177]⟩ 0 = (97, 1) := by kernel_rfl
    have D1 : Utf8.decode ⟨#[97, 195, 177]⟩ 1 = (241, 2) := by kernel_rfl
    obtain ⟨s, hs⟩ : ∃ s : ByteArray, s = ⟨#[97, 195, 177]⟩ := ⟨_, rfl⟩
    have hz : s.size = 3 := by rw [hs]; rfl
    rw [← hs] at D0 D1 ⊢
    clear hs
    have A1 := Aside0.mk P1
    have A2 := Aside0.mk P2
    have E0 := Aside0.mk D0
    have E1 := Aside0.mk D1
    have HZ := Aside0.mk hz
    clear P1 P2 hz D0 D1
    go_enter Tryd.func125, Tryd.ntmps125
    go_wp2
    go_loopw [5] (fun v wr => ∃ (p : Nat) (xs : List Int), Aside0 (wr.heap[w.heap.size]? = some (.stringIter s p)) ∧ Aside0 (Kd.R (Kd.int .i32) 21 wr w.heap.size (fun _ => True) v xs) ∧ Aside0 (Below w.heap.size w wr) ∧ ((p = 0 ∧ xs = []) ∨ (p = 1 ∧ xs = [97]) ∨ (p = 3 ∧ xs = [97, 241]))) (fun _ wr => 3 - wr.iterPos w.heap.size)
    case atStart => exact ⟨0, [], ⟨World.iter_heap _ _ _⟩, ⟨Kd.R_nil _ _ _ _ _⟩, ⟨below_alloc (Below.refl _ _) _⟩, .inl ⟨rfl, rfl⟩⟩
    case round =>
    obtain ⟨p, xs, HI, HO, HB, hcase⟩ := hrel
    rcases hcase with ⟨hp, hx⟩ | ⟨hp, hx⟩ | ⟨hp, hx⟩
    · obtain rfl := hp
      obtain rfl := hx
      have hnx : ∀ ty, (Instr.next (.pointer (some ⟨w.heap.size, 0, none⟩)) true ty).run Tryd.prog wr = .ok (.tuple #[.bool true, .int .i64 (0 : Nat), .int .i32 97]) (wr.iterAt w.heap.size s 1) := fun ty => by
        have h_ := Lib.run_next_any_at (P := Tryd.prog) wr w.heap.size s 0 ty HI.out (by rw [HZ.out]; omega)
        rw [E0.out] at h_
        exact h_
      have HI0 := HI
      have HI2 := Aside0.mk (iterAt_heap_ (pos' := 1) HI.out)
      have HB2 := Aside0.mk (Lib.below_iterAt (a := w) HB.out (Nat.le_refl w.heap.size) s 1)
      have HO2 := Aside0.mk (Kd.R_move (w1 := wr.iterAt w.heap.size s 1) (Kd.R_bound HO.out) (fun k hk => by
        obtain ⟨_, _, _, q, _, cells, hc⟩ := hk
        refine Lib.iterAt_other _ _ _ _ _ (fun e => ?_)
        subst e
        have h2 := HI.out.symm.trans hc
        injection h2 with h2
        cases h2))
      have HO3 := Aside0.mk (Kd.R_mono HO2.out (fun _ _ => trivial) (ok' := fun _ => True))
      obtain ⟨W2, hW2⟩ : ∃ W2, wr.iterAt w.heap.size s 1 = W2 := ⟨_, rfl⟩
      rw [hW2] at hnx HI2 HB2 HO3
      clear hW2 HO2 HO HB HI
      go_wp2_with (first | (go_at_call 138; refine (chars_plain.calls 12 97 97 true _ A1.out).mono ?_; rintro e w' ⟨rfl, ⟨nd, rfl⟩⟩) | ((with_reducible refine gate_builtin (b := .append) (xs := #[.tmp 22, .tmp 24]) rfl ?_); at_builtin; refine Kd.R_append (Kd.int .i32) (w0 := w) w.heap.size rfl (.tmp 22) (.tmp 24) 119 21 (.int .i32 0) 4 rfl Tryd.underlying119 info21 rfl (by decide) (by omega) u5 [] 97 [.int .i32 97] (fun _ => True) (fun _ => False) rfl rfl ?aP (fun _ hk => hk.elim) ?aF ?aO ?aB ?aS ?aL ?_; (case aP => exact rfl); (case aB => exact (by repeat (first | (with_reducible first | exact HB2.out | apply below_alloc | apply pw_below_drewN | apply below_drew1) | exact HB2.out))); (case aF => exact (fun _ _ => trivial)); (case aO => exact (by (with_reducible repeat (first | apply Kd.R_alloc | apply Kd.R_drewN | apply Kd.R_drew)); exact HO3.out)); (case aS => exact (below_size (by repeat (first | (with_reducible first | exact HB2.out | apply below_alloc | apply pw_below_drewN | apply below_drew1) | exact HB2.out)))); (case aL => simp); intro v165 w8 ho hb hg hat; have n3_ := Aside0.mk (iter_grown_ (v := u5) (xs := []) (b := w.heap.size) (k := w.heap.size) (s := s) (p := 1) (by exact HI2.out) (by (with_reducible repeat (first | apply Kd.R_alloc | apply Kd.R_drewN | apply Kd.R_drew)); exact HO3.out) hg); have n0_ := Aside0.mk (hb); have n1_ := Aside0.mk (ho); clear HB2; clear HO3 HI2; have HB := n0_; have HO := n1_; have HI := n3_; clear n0_ n1_ n3_; clear ho hb hg hat))
      go_roundw
      case rel => exact ⟨1, [97], HI, HO, HB, .inr (.inl ⟨rfl, rfl⟩)⟩
      case measure =>
        have e1_ : wr.iterPos w.heap.size = 0 := iterPos_of_ HI0.out
        have e2_ := iterPos_of_ HI.out
        omega
    · obtain rfl := hp
      obtain rfl := hx
      have hnx : ∀ ty, (Instr.next (.pointer (some ⟨w.heap.size, 0, none⟩)) true ty).run Tryd.prog wr = .ok (.tuple #[.bool true, .int .i64 (1 : Nat), .int .i32 241]) (wr.iterAt w.heap.size s 3) := fun ty => by
        have h_ := Lib.run_next_any_at (P := Tryd.prog) wr w.heap.size s 1 ty HI.out (by rw [HZ.out]; omega)
        rw [E1.out] at h_
        exact h_
      have HI0 := HI
      have HI2 := Aside0.mk (iterAt_heap_ (pos' := 3) HI.out)
      have HB2 := Aside0.mk (Lib.below_iterAt (a := w) HB.out (Nat.le_refl w.heap.size) s 3)
      have HO2 := Aside0.mk (Kd.R_move (w1 := wr.iterAt w.heap.size s 3) (Kd.R_bound HO.out) (fun k hk => by
        obtain ⟨_, _, _, q, _, cells, hc⟩ := hk
        refine Lib.iterAt_other _ _ _ _ _ (fun e => ?_)
        subst e
        have h2 := HI.out.symm.trans hc
        injection h2 with h2
        cases h2))
      have HO3 := Aside0.mk (Kd.R_mono HO2.out (fun _ _ => trivial) (ok' := fun _ => True))
      obtain ⟨W2, hW2⟩ : ∃ W2, wr.iterAt w.heap.size s 3 = W2 := ⟨_, rfl⟩
      rw [hW2] at hnx HI2 HB2 HO3
      clear hW2 HO2 HO HB HI
      go_wp2_with (first | (go_at_call 138; refine (chars_plain.calls 12 241 241 true _ A2.out).mono ?_; rintro e w' ⟨rfl, ⟨nd, rfl⟩⟩) | ((with_reducible refine gate_builtin (b := .append) (xs := #[.tmp 22, .tmp 24]) rfl ?_); at_builtin; refine Kd.R_append (Kd.int .i32) (w0 := w) w.heap.size rfl (.tmp 22) (.tmp 24) 119 21 (.int .i32 0) 4 rfl Tryd.underlying119 info21 rfl (by decide) (by omega) u5 [97] 241 [.int .i32 241] (fun _ => True) (fun _ => False) rfl rfl ?aP (fun _ hk => hk.elim) ?aF ?aO ?aB ?aS ?aL ?_; (case aP => exact rfl); (case aB => exact (by repeat (first | (with_reducible first | exact HB2.out | apply below_alloc | apply pw_below_drewN | apply below_drew1) | exact HB2.out))); (case aF => exact (fun _ _ => trivial)); (case aO => exact (by (with_reducible repeat (first | apply Kd.R_alloc | apply Kd.R_drewN | apply Kd.R_drew)); exact HO3.out)); (case aS => exact (below_size (by repeat (first | (with_reducible first | exact HB2.out | apply below_alloc | apply pw_below_drewN | apply below_drew1) | exact HB2.out)))); (case aL => simp); intro v165 w8 ho hb hg hat; have n3_ := Aside0.mk (iter_grown_ (v := u5) (xs := [97]) (b := w.heap.size) (k := w.heap.size) (s := s) (p := 3) (by exact HI2.out) (by (with_reducible repeat (first | apply Kd.R_alloc | apply Kd.R_drewN | apply Kd.R_drew)); exact HO3.out) hg); have n0_ := Aside0.mk (hb); have n1_ := Aside0.mk (ho); clear HB2; clear HO3 HI2; have HB := n0_; have HO := n1_; have HI := n3_; clear n0_ n1_ n3_; clear ho hb hg hat))
      go_roundw
      case rel => exact ⟨3, [97, 241], HI, HO, HB, .inr (.inr ⟨rfl, rfl⟩)⟩
      case measure =>
        have e1_ : wr.iterPos w.heap.size = 1 := iterPos_of_ HI0.out
        have e2_ := iterPos_of_ HI.out
        omega
    · obtain rfl := hp
      obtain rfl := hx
      have hnx : ∀ ty, (Instr.next (.pointer (some ⟨w.heap.size, 0, none⟩)) true ty).run Tryd.prog wr = .ok (.tuple #[.bool false]) wr := fun ty => Lib.run_next_end_at (P := Tryd.prog) wr w.heap.size s 3 ty HI.out (by rw [HZ.out]; omega)
      go_wp2
      go_ret
      exact ⟨_, rfl, HO.out, HB.out⟩
  · rw [if_neg c] at h
    exact absurd h (by simp)

end Go.Proofs.YtgdpknmffohhaaaDoor.Pl

namespace Go.Proofs.YtgdpknmffohhaaaDoor.Pl
open Go.RowKit Go.Proofs.YtgdpknmffohhaaaDoorW.PrintWords Go.Proofs.YtgdpknmffohhaaaDoorW.PrintLast Go.Proofs.YtgdpknmffohhaaaDoorW.PrintMore
attribute [local go_sem] max2_int min2_int max_two min_two max_three min_three max_four min_four   -- for this text's walks alone
set_option linter.unusedVariables false
set_option linter.unusedSimpArgs false

/-! ### cells_Of: function 96 -/
def cells_Of.l0 : Nat → Int → ByteArray → List (S71) → List Int → Int → Int → Option ((List (S71)))
  | 0, _, _, _, _, _, _ => none
  | k + 1, x1, x2, x7, x11, x12, x13 => if x13 < x12 then (if 0 ≤ x13 then (if x13 < (x11.length : Int) then (if x7.length < 4398046511104 then (cells_Of.l0 k x1 x2 (x7 ++ [(⟨rd x11 x13, x1, x2⟩ : S71)]) x11 x12 (wrap64 (x13 + 1))) else (none)) else (none)) else (none)) else (some x7)
def cells_Of.f (k : Nat) (a0 : ByteArray) (a1 : Int) (a2 : ByteArray) : Option ((List (S71))) := (chars_Clean.f a0).bind fun t104 => (cells_Of.l0 k a1 a2 ([] : List (S71)) t104 (t104.length : Int) 0)
theorem cells_Of.mono_l : ∀ k, (∀ y0 y1 y2 y3 y4 y5, LeO (cells_Of.l0 k y0 y1 y2 y3 y4 y5) (cells_Of.l0 (k + 1) y0 y1 y2 y3 y4 y5))
  | 0 => fun _ _ _ _ _ _ r h => by simp [cells_Of.l0] at h
  | k + 1 => by
    have ih0 := cells_Of.mono_l k
    · intro y0 y1 y2 y3 y4 y5
      unfold cells_Of.l0
      repeat' first
      | (with_reducible exact ih0 _ _ _ _ _ _)
      | (with_reducible exact LeO.refl _)
      | (with_reducible exact LeO.none _)
      | (with_reducible refine LeO.ite ?_ ?_)
      | (with_reducible refine LeO.bind ?_ (fun _ => ?_))
      | exact ih0 _ _ _ _ _ _
      | exact LeO.none _
      | refine LeO.ite ?_ ?_
      | refine LeO.bind ?_ (fun _ => ?_)
theorem cells_Of.mono : ∀ a0 a1 a2 k, LeO (cells_Of.f k a0 a1 a2) (cells_Of.f (k + 1) a0 a1 a2) := by
  intro a0 a1 a2 k
  have ih0 := cells_Of.mono_l k
  unfold cells_Of.f
  repeat' first
      | (with_reducible exact ih0 _ _ _ _ _ _)
      | (with_reducible exact LeO.refl _)
      | (with_reducible exact LeO.none _)
      | (with_reducible refine LeO.ite ?_ ?_)
      | (with_reducible refine LeO.bind ?_ (fun _ => ?_))
      | exact ih0 _ _ _ _ _ _
      | exact LeO.none _
      | refine LeO.ite ?_ ?_
      | refine LeO.bind ?_ (fun _ => ?_)
set_option maxHeartbeats 8000000 in
set_option maxRecDepth 100000 in
theorem cells_Of.calls (k : Nat) (a0 : ByteArray) (a1 : Int) (a2 : ByteArray) (r : List (S71)) (w : World) (h : cells_Of.f k a0 a1 a2 = some r) :
    Calls Tryd.prog 96 #[.string a0, .int .i64 a1, .string a2] w fun e w' => ∃ v0_ : Value, e = .returned (v0_) ∧ Kd.R k71 71 w' w.heap.size (fun _ => True) v0_ r ∧ Below w.heap.size w w' := by
  have hu71 := Tryd.underlying71
  have HB := Aside0.mk (Below.refl w.heap.size w)
  have H : ((chars_Clean.f a0).bind fun t104 => (cells_Of.l0 k a1 a2 ([] : List (S71)) t104 (t104.length : Int) 0)) = some r := h
  clear h
  replace H := Option.bind_eq_some_iff.mp H
  obtain ⟨t104, A40, H⟩ := H
  replace H : (cells_Of.l0 k a1 a2 ([] : List (S71)) t104 (t104.length : Int) 0) = some r := H
  have A4 := Aside0.mk A40
  clear A40
  have H' := Aside0.mk H
  clear H
  go_enter Tryd.func96, Tryd.ntmps96
  go_wp2_with (first | ((with_reducible refine gate_callee (f := 125) rfl ?_); refine goesL_ (some 11) rfl rfl Tryd.func125 (by kernel_rfl) rfl #[.string a0] rfl (by (try simp only [List.map_toArray, List.map_cons, List.map_nil]); first | done | rfl | (simp only [List.length_drop, List.length_take]; rfl)) ?_; (with_reducible refine (chars_Clean.calls a0 t104 _ A4.out).mono ?_); rintro e w5 ⟨v105, rfl, ho0, hb⟩; refine ⟨_, rfl, ?_⟩; have n0_ := Aside0.mk (Kd.R_lower ho0 (below_size (by repeat (first | (with_reducible first | exact HB.out | apply below_alloc | apply pw_below_drewN | apply below_drew1) | exact HB.out)))); have n1_ := Aside0.mk (below_step (by repeat (first | (with_reducible first | exact HB.out | apply below_alloc | apply pw_below_drewN | apply below_drew1) | exact HB.out)) hb); clear HB; have HO106 := n0_; have HB := n1_; clear n0_ n1_; (try clear hb); (try clear hb2); (try clear hk); (try clear hi); (try clear ho0); obtain ⟨Ao6, co6, eo6⟩ := Kd.R_slice HO106.out; subst eo6))
  go_loopg [7, 13] k (fun kq v7 v13 w' => ∃ (x7_1 : List (S71)) (x13_1 : Int), v13 = .int .i64 x13_1 ∧ Aside0 (cells_Of.l0 kq a1 a2 x7_1 t104 (t104.length : Int) x13_1 = some r) ∧ Aside0 (kq ≤ k) ∧ Aside0 (Kd.R k71 71 w' w.heap.size (fun _ => True) v7 x7_1) ∧ Aside0 (Kd.R (Kd.int .i32) 21 w' w.heap.size (fun _ => True) (.slice Ao6 t104.length co6) t104) ∧ Aside0 (Below w.heap.size w w'))
  case atStart => exact ⟨(([] : List (S71))), (0), (by first | rfl | (simp; done) | (simp [*]; done)), H', ⟨Nat.le_refl _⟩, ⟨by first | exact Kd.R_nil _ _ _ _ _ | exact Kd.N_nil _ _ _ _ _ | exact Kd.V_nil _ _ _ _ _ | exact Kd.Q_nil _ _ _ _ _ | exact Kd.S_nil _ _ _ _ _⟩, ⟨by (with_reducible repeat (first | apply Kd.R_alloc | apply Kd.R_drewN | apply Kd.R_drew)); exact HO106.out⟩, ⟨by repeat (first | (with_reducible first | exact HB.out | apply below_alloc | apply pw_below_drewN | apply below_drew1) | exact HB.out)⟩⟩
  case round =>
    clear H'
    try clear c1
    try clear p2
    obtain ⟨x7_1, x13_1, rfl, HA, HK1, HO_7, HO_11, HB⟩ := hrel
    cases gk with
    | zero => exact absurd HA.out (by simp [cells_Of.l0])
    | succ k1 =>
      have H := HA.out
      clear HA
      simp only [cells_Of.l0] at H
      by_cases c7 : x13_1 < (t104.length : Int)
      · rw [if_pos c7] at H
        have c7b0 : decide (x13_1 < (t104.length : Int)) = true := decide_eq_true c7
        clear c7
        by_cases c8 : 0 ≤ x13_1
        · rw [if_pos c8] at H
          have c8b0 : decide (0 ≤ x13_1) = true := decide_eq_true c8
          clear c8
          by_cases c9 : x13_1 < (t104.length : Int)
          · rw [if_pos c9] at H
            have c9b0 : decide (x13_1 < (t104.length : Int)) = true := decide_eq_true c9
            clear c9
            by_cases c10 : x7_1.length < 4398046511104
            · rw [if_pos c10] at H
              have LMc10 := Aside0.mk c10
              clear c10
              obtain ⟨y108, hy108⟩ : ∃ y_ : List (S71), y_ = (x7_1 ++ [(⟨rd t104 x13_1, a1, a2⟩ : S71)]) := ⟨_, rfl⟩
              replace H : (cells_Of.l0 k1 a1 a2 y108 t104 (t104.length : Int) (wrap64 (x13_1 + 1))) = some r := by first | (rw [hy108]; with_reducible exact H) | (have H2_ := (Option.bind_some _ _).symm.trans H; rw [hy108]; with_reducible exact H2_) | (have H2_ := (Option.bind_some _ _).symm.trans H; with_reducible exact H2_) | with_reducible exact H | (rw [hy108]; exact H) | exact H
              have Ny108 := Aside0.mk hy108
              clear hy108
              have H' := Aside0.mk H
              clear H
              have p107 : 0 ≤ (x13_1 : Int) := of_decide_eq_true (by first | (with_reducible assumption) | assumption)
              have q107 : x13_1 < (t104.length : Int) := of_decide_eq_true (by first | (with_reducible assumption) | assumption)
              obtain ⟨ad107, e107, hx107_0⟩ := Kd.at_int (Kd.R_reads' HO_11.out).2.2 x13_1 p107 q107
              cases e107
              replace p107 := eq_true p107
              replace q107 := eq_true q107
              go_wp2_with (first | ((with_reducible refine gate_builtin (b := .append) (xs := #[.tmp 17, .tmp 22]) rfl ?_); at_builtin; refine Kd.R_append k71 (w0 := w) w.heap.size rfl (.tmp 17) (.tmp 22) 36 71 (.agg #[(.int .i32 0), (.int .i64 0), (.string ⟨#[]⟩)]) 32 rfl Tryd.underlying36 info71 rfl (by decide) (by omega) u7 x7_1 (⟨rd t104 x13_1, a1, a2⟩ : S71) [.int .i32 (rd t104 x13_1), .int .i64 a1, .string a2] (fun _ => True) (fun _ => False) rfl rfl ?aP (fun _ hk => hk.elim) ?aF ?aO ?aB ?aS ?aL ?_; (case aP => exact k71_mkM _ _ _ (⟨rd t104 x13_1, a1, a2⟩ : S71)); (case aB => exact (by repeat (first | (with_reducible first | exact HB.out | apply below_alloc | apply pw_below_drewN | apply below_drew1) | exact HB.out))); (case aF => exact (fun _ _ => trivial)); (case aO => exact (by (with_reducible repeat (first | apply Kd.R_alloc | apply Kd.R_drewN | apply Kd.R_drew)); exact HO_7.out)); (case aS => exact (below_size (by repeat (first | (with_reducible first | exact HB.out | apply below_alloc | apply pw_below_drewN | apply below_drew1) | exact HB.out)))); (case aL => have := LMc10.out; omega); intro v109 w11 ho hb hg hat; rw [← Ny108.out] at ho; have n0_ := Aside0.mk (Kd.R_over' (by (with_reducible repeat (first | apply Kd.R_alloc | apply Kd.R_drewN | apply Kd.R_drew)); exact HO_11.out) (Kd.R_typed (by (with_reducible repeat (first | apply Kd.R_alloc | apply Kd.R_drewN | apply Kd.R_drew)); exact HO_7.out)) (by decide) hg); have n1_ := Aside0.mk (hb); have n2_ := Aside0.mk (ho); clear HO_11; clear HB; clear HO_7; have HO_11 := n0_; have HB := n1_; have HO110 := n2_; clear n0_ n1_ n2_; clear ho hb hg hat))
              go_roundg k1
              case measure => have := HK1.out; omega
              case rel => exact ⟨(y108), (wrap64 (x13_1 + 1)), (by first | rfl | (simp; done) | (simp [*]; done)), H', ⟨by have := HK1.out; omega⟩, ⟨by (with_reducible repeat (first | apply Kd.R_alloc | apply Kd.R_drewN | apply Kd.R_drew)); exact HO110.out⟩, ⟨by (with_reducible repeat (first | apply Kd.R_alloc | apply Kd.R_drewN | apply Kd.R_drew)); exact HO_11.out⟩, ⟨by repeat (first | (with_reducible first | exact HB.out | apply below_alloc | apply pw_below_drewN | apply below_drew1) | exact HB.out)⟩⟩
            · rw [if_neg c10] at H
              exact absurd H (by simp)
          · rw [if_neg c9] at H
            exact absurd H (by simp)
        · rw [if_neg c8] at H
          exact absurd H (by simp)
      · rw [if_neg c7] at H
        have c7b0 : decide (x13_1 < (t104.length : Int)) = false := decide_eq_false c7
        clear c7
        obtain rfl := Option.some.inj H
        go_wp2
        go_ret
        exact ⟨_, by first | rfl | (simp [errW_none, errW_some] <;> rfl) | (simp [*, errW_none, errW_some] <;> rfl), by (with_reducible repeat (first | apply Kd.R_alloc | apply Kd.R_drewN | apply Kd.R_drew)); exact HO_7.out, by repeat (first | (with_reducible first | exact HB.out | apply below_alloc | apply pw_below_drewN | apply below_drew1) | exact HB.out)⟩

end Go.Proofs.YtgdpknmffohhaaaDoor.Pl

namespace Go.Proofs.YtgdpknmffohhaaaDoor.Pl
open Go.RowKit Go.Proofs.YtgdpknmffohhaaaDoorW.PrintWords Go.Proofs.YtgdpknmffohhaaaDoorW.PrintLast Go.Proofs.YtgdpknmffohhaaaDoorW.PrintMore
attribute [local go_sem] max2_int min2_int max_two min_two max_three min_three max_four min_four   -- for this text's walks alone
set_option linter.unusedVariables false
set_option linter.unusedSimpArgs false

/-! ### lib_runs -/
/-! What a round keeps of a walk over an iterator: all below n₀; and each block that is neither the variable's box o nor the row that the variable holds. -/
def WFo_ (o : Nat) (W : World) : Prop := ∀ v, W.cell? ⟨o, 0, none⟩ = some v → ∀ b, v.ownBlock = some b → b < W.heap.size
def Free_ (o : Nat) (W : World) (b : Nat) : Prop := (∃ cs t fr, W.heap[b]? = some (.cells cs t fr)) ∧ b ≠ o ∧ ∀ v, W.cell? ⟨o, 0, none⟩ = some v → v.ownBlock ≠ some b
def Kp_ (n₀ o : Nat) (W W' : World) : Prop := Below n₀ W W' ∧ (WFo_ o W → WFo_ o W' ∧ ∀ b, Free_ o W b → W'.heap[b]? = W.heap[b]? ∧ Free_ o W' b)
theorem Kp_.trans {n₀ o : Nat} {A B C : World} (h : Kp_ n₀ o A B) (k : Kp_ n₀ o B C) : Kp_ n₀ o A C :=
  ⟨h.1.trans k.1, fun hw => by
    obtain ⟨h1, h2⟩ := h.2 hw
    obtain ⟨k1, k2⟩ := k.2 h1
    exact ⟨k1, fun b hb => ⟨(k2 b (h2 b hb).2).1.trans (h2 b hb).1, (k2 b (h2 b hb).2).2⟩⟩⟩
theorem Kp_.mk' {n₀ o : Nat} {A B : World} (hb : Below n₀ A B) (hkeep : ∀ b, Free_ o A b → B.heap[b]? = A.heap[b]?)
    (hnew : WFo_ o A → ∀ v', B.cell? ⟨o, 0, none⟩ = some v' → ∀ b, v'.ownBlock = some b → b < B.heap.size ∧ ((∃ v, A.cell? ⟨o, 0, none⟩ = some v ∧ v.ownBlock = some b) ∨ A.heap.size ≤ b)) : Kp_ n₀ o A B :=
  ⟨hb, fun hw => ⟨fun v' hv b he => (hnew hw v' hv b he).1, fun b hf => ⟨hkeep b hf, by
    obtain ⟨⟨cs, t, fr, hc⟩, hne, hown⟩ := hf
    refine ⟨⟨cs, t, fr, (hkeep b ⟨⟨cs, t, fr, hc⟩, hne, hown⟩).trans hc⟩, hne, fun v' hv he => ?_⟩
    rcases (hnew hw v' hv b he).2 with ⟨v, hva, hvo⟩ | hge
    · exact hown v hva hvo
    · have := (Array.getElem?_eq_some_iff.1 hc).1
      omega⟩⟩⟩
/-- Nothing that lay has turned. -/
theorem Kp_.grown {n₀ o : Nat} {A B : World} (hn : n₀ ≤ A.heap.size) (ho : o < A.heap.size) (hg : Below A.heap.size A B) : Kp_ n₀ o A B := by
  have hcell : B.cell? ⟨o, 0, none⟩ = A.cell? ⟨o, 0, none⟩ := hg.cell (p := ⟨o, 0, none⟩) ho
  refine Kp_.mk' (hg.mono hn) (fun b hf => ?_) (fun hw v' hv b he => ?_)
  · obtain ⟨⟨cs, t, fr, hc⟩, _⟩ := hf
    exact hg.block b (Array.getElem?_eq_some_iff.1 hc).1
  · rw [hcell] at hv
    exact ⟨Nat.lt_of_lt_of_le (hw v' hv b he) hg.size, .inl ⟨v', hv, he⟩⟩
theorem Kp_.putObj {n₀ o N : Nat} (hn : n₀ ≤ N) (ho : o < N) (W : World) (l : Nat) (x x' : Obj) (hl : N ≤ l) (hx : W.heap[l]? = some x) (hc : x.isCells = false) : Kp_ n₀ o W (W.putObj l x') := by
  have hg := grownBy_putObj' W l x'
  have hsz : (W.putObj l x').heap.size = W.heap.size := by simp [World.putObj]
  have hb : Below n₀ W (W.putObj l x') := (Below.refl n₀ W).grown hg (by have := (Array.getElem?_eq_some_iff.1 hx).1; omega) (fun k e => by cases e; omega)
  have hcell : (W.putObj l x').cell? ⟨o, 0, none⟩ = W.cell? ⟨o, 0, none⟩ := World.cell?_of_block (w := W) (a := ⟨o, 0, none⟩) (World.putObj_heap_other (show o ≠ l by omega))
  refine Kp_.mk' hb (fun b hf => ?_) (fun hw v' hv b he => ?_)
  · obtain ⟨⟨cs, t, fr, hcc⟩, _⟩ := hf
    refine World.putObj_heap_other (fun e => ?_)
    subst e
    rw [hx] at hcc
    cases hcc
    cases hc
  · rw [hcell] at hv
    rw [hsz]
    exact ⟨hw v' hv b he, .inl ⟨v', hv, he⟩⟩
/-- A new block is free, if the variable's row is an elder one. -/
theorem free_new_ {o : Nat} {A B : World} (hw : WFo_ o A) (ho : o < A.heap.size) (hg : Below A.heap.size A B) {b : Nat} (hb : A.heap.size ≤ b) {cs : Array Value} {t : TypeId} {fr : Nat × Nat} (hc : B.heap[b]? = some (.cells cs t fr)) : Free_ o B b := by
  have hcell : B.cell? ⟨o, 0, none⟩ = A.cell? ⟨o, 0, none⟩ := hg.cell (p := ⟨o, 0, none⟩) ho
  refine ⟨⟨cs, t, fr, hc⟩, by omega, fun v hv he => ?_⟩
  rw [hcell] at hv
  have := hw v hv b he
  omega
/-! ### The runs of a row -/
def ext_ (b : Int) (h : ByteArray) : List S71 → Nat
  | [] => 0
  | c :: t => if c.f0 ≠ 10 ∧ c.f1 = b ∧ c.f2.toList = h.toList then ext_ b h t + 1 else 0
def runAt_ (i : Nat) (c : S71) (t : List S71) : S103 := ⟨(i : Int), ((i + 1 + (if c.f0 = 10 then 0 else ext_ c.f1 c.f2 t) : Nat) : Int), c.f1, c.f2, if c.f0 = 10 then 1 else 0⟩
def runsFrom_ : Nat → Nat → List S71 → List S103
  | 0, _, _ => []
  | _ + 1, _, [] => []
  | k + 1, i, c :: t => runAt_ i c t :: runsFrom_ k (i + 1 + (if c.f0 = 10 then 0 else ext_ c.f1 c.f2 t)) (t.drop (if c.f0 = 10 then 0 else ext_ c.f1 c.f2 t))
theorem runsFrom_more_ (k : Nat) : ∀ (i : Nat) (l : List S71), l.length ≤ k → runsFrom_ k i l = runsFrom_ l.length i l := by
  induction k using Nat.strongRecOn with
  | _ k ih =>
    intro i l hk
    cases l with
    | nil => cases k <;> rfl
    | cons c t =>
      cases k with
      | zero => simp at hk
      | succ k =>
        simp only [List.length_cons] at hk ⊢
        simp only [runsFrom_]
        have hd : (t.drop (if c.f0 = 10 then 0 else ext_ c.f1 c.f2 t)).length ≤ t.length := by rw [List.length_drop]; omega
        rw [ih k (by omega) _ _ (by omega)]
        by_cases h : t.length = k
        · rw [h, ih k (by omega) _ _ (by omega)]
        · rw [ih t.length (by omega) _ _ hd]
def runs_ (l : List S71) : List S103 := runsFrom_ l.length 0 l
theorem ext_le_ (b : Int) (h : ByteArray) : ∀ l : List S71, ext_ b h l ≤ l.length
  | [] => Nat.le_refl _
  | c :: t => by
    have := ext_le_ b h t
    simp only [ext_]
    split <;> simp <;> omega
theorem runsFrom_step_ (l : List S71) (k : Nat) (c : S71) (hc : l[k]? = some c) : runsFrom_ (l.length - k) k (l.drop k) = runAt_ k c (l.drop (k + 1)) :: runsFrom_ (l.length - (k + 1 + (if c.f0 = 10 then 0 else ext_ c.f1 c.f2 (l.drop (k + 1))))) (k + 1 + (if c.f0 = 10 then 0 else ext_ c.f1 c.f2 (l.drop (k + 1)))) (l.drop (k + 1 + (if c.f0 = 10 then 0 else ext_ c.f1 c.f2 (l.drop (k + 1))))) := by
  obtain ⟨hlt, he⟩ := List.getElem?_eq_some_iff.1 hc
  obtain ⟨m, hm⟩ : ∃ m, l.length - k = m + 1 := ⟨l.length - k - 1, by omega⟩
  have e1 : l.drop k = c :: l.drop (k + 1) := by rw [List.drop_eq_getElem_cons hlt, he]
  rw [hm, e1]
  simp only [runsFrom_, List.drop_drop]
  congr 1
  have hle : (if c.f0 = 10 then 0 else ext_ c.f1 c.f2 (l.drop (k + 1))) ≤ l.length - (k + 1) := by
    split
    · exact Nat.zero_le _
    · have := ext_le_ c.f1 c.f2 (l.drop (k + 1)); rwa [List.length_drop] at this
  generalize (if c.f0 = 10 then 0 else ext_ c.f1 c.f2 (l.drop (k + 1))) = n at hle ⊢
  rw [runsFrom_more_ m _ _ (by rw [List.length_drop]; omega), List.length_drop]
theorem ext_step_ (b : Int) (h : ByteArray) (l : List S71) (j : Nat) (c : S71) (hc : l[j]? = some c) : ext_ b h (l.drop j) = if c.f0 ≠ 10 ∧ c.f1 = b ∧ c.f2.toList = h.toList then ext_ b h (l.drop (j + 1)) + 1 else 0 := by
  obtain ⟨hlt, he⟩ := List.getElem?_eq_some_iff.1 hc
  rw [List.drop_eq_getElem_cons hlt, he]
  rfl

end Go.Proofs.YtgdpknmffohhaaaDoor.Pl

namespace Go.Proofs.YtgdpknmffohhaaaDoor.Pl
open Go.RowKit Go.Proofs.YtgdpknmffohhaaaDoorW.PrintWords Go.Proofs.YtgdpknmffohhaaaDoorW.PrintLast Go.Proofs.YtgdpknmffohhaaaDoorW.PrintMore
attribute [local go_sem] max2_int min2_int max_two min_two max_three min_three max_four min_four   -- for this text's walks alone
set_option linter.unusedVariables false
set_option linter.unusedSimpArgs false

/-! ### lib_iter -/
attribute [local go_sem] Oper.semAt_some
def encR_ (x : S103) : Array Value := #[.agg #[.int .i64 x.f0, .int .i64 x.f1, .int .i64 x.f2, .string x.f3, .int .i64 x.f4]]
theorem fresh_box_ (wr : World) (O : Obj) (nq : Nat) : Below wr.heap.size wr ((wr.alloc O).drew.drewN nq) ∧ ((wr.alloc O).drew.drewN nq).heap[wr.heap.size]? = some O ∧ wr.grownBy ((wr.alloc O).drew.drewN nq) none := by
  have hb : Below wr.heap.size wr ((wr.alloc O).drew.drewN nq) := pw_below_drewN (below_drew (below_alloc (Below.refl _ _) O)) nq
  exact ⟨hb, heap_alloc_new wr O, grown_of_below hb none⟩
theorem fresh_boxN_ (wr : World) (O : Obj) (nz nq : Nat) : Below wr.heap.size wr (((wr.alloc O).drewN nz).drewN nq) ∧ (((wr.alloc O).drewN nz).drewN nq).heap[wr.heap.size]? = some O ∧ wr.grownBy (((wr.alloc O).drewN nz).drewN nq) none := by
  have hb : Below wr.heap.size wr (((wr.alloc O).drewN nz).drewN nq) := pw_below_drewN (pw_below_drewN (below_alloc (Below.refl _ _) O) nz) nq
  exact ⟨hb, heap_alloc_new wr O, grown_of_below hb none⟩
theorem box_to_ (wr : World) (a b c d e v : Value) (t : TypeId) (n : Nat) : ((wr.alloc (.cells #[a, b, c, d, e] t)).drewN n).setCell ⟨wr.heap.size, 1, none⟩ v = (wr.alloc (.cells #[a, v, c, d, e] t)).drewN n := by
  show ((wr.alloc (.cells #[a, b, c, d, e] t)).setCell ⟨wr.heap.size, 1, none⟩ v).drewN n = _
  rw [World.setCell_alloc_at _ _ _ _ _ rfl]
  rfl
theorem run_brk_ (k : Nat) (c : S71) (t : List S71) (h : c.f0 = 10) : encR_ (runAt_ k c t) = #[.agg #[.int .i64 (k : Int), .int .i64 ((k : Int) + 1), .int .i64 c.f1, .string c.f2, .int .i64 1]] := by
  unfold encR_ runAt_
  rw [if_pos h, if_pos h]
  simp
theorem run_not_ (k : Nat) (c : S71) (t : List S71) (m : Nat) (h : ¬ c.f0 = 10) (hm : ext_ c.f1 c.f2 t = m) : encR_ (runAt_ k c t) = #[.agg #[.int .i64 (k : Int), .int .i64 (((k + 1 + m : Nat) : Int)), .int .i64 c.f1, .string c.f2, .int .i64 0]] := by
  unfold encR_ runAt_
  rw [if_neg h, if_neg h, hm]
set_option maxRecDepth 100000 in
set_option maxHeartbeats 8000000 in
theorem runs1_ (n l Bn o n₀ : Nat) (A0 : Option Addr) (c0 : Nat) (l0 : List S71) (J Jx : List S103 → World → Prop) (W : World)
    (hJ : AbidesFrom W.heap.size J)
    (hY : ∀ pre x W1, J pre W1 → pre.length < l0.length → YieldAt Fence.wide (n - 1) Tryd.prog l (encR_ x) W1 fun e W' =>
      (e = .returned (.bool true) ∧ J (pre ++ [x]) W' ∧ Kp_ n₀ o W1 W') ∨ (e = .returned (.bool false) ∧ Jx (pre ++ [x]) W'))
    (hBn : W.heap[Bn]? = some (.cells #[.slice A0 l0.length c0] 36 (0, 0))) (hC : ∀ W', Below n₀ W W' → Kd.C k71 W' A0 l0.length l0)
    (hWF : WFo_ o W) (hfree : Free_ o W Bn) (ho : o < W.heap.size) (hn₀ : n₀ ≤ W.heap.size) (hmx : l0.length ≤ 1000000000) (hn1 : 1 ≤ n) (h0 : J [] W) :
    Calls Tryd.prog 139 #[.func (.yield l) #[] #[], .pointer (some ⟨Bn, 0, none⟩)] W fun e W' => (∃ v, e = .returned v) ∧ ((∃ ys, ys = runs_ l0 ∧ J ys W') ∨ (∃ pre : List S103, True ∧ Jx pre W')) := by
  go_enter Tryd.func139, Tryd.ntmps139
  go_wp2
  go_loopw [3] (fun v wr => ∃ (k : Nat) (pre : List S103), v = .int .i64 (k : Int) ∧ k ≤ l0.length ∧ Aside0 (pre.length ≤ k) ∧ Aside0 (pre ++ runsFrom_ (l0.length - k) k (l0.drop k) = runs_ l0) ∧ Aside0 (J pre wr) ∧ Aside0 (Below n₀ W wr ∧ W.heap.size ≤ wr.heap.size) ∧ Aside0 (wr.heap[Bn]? = some (.cells #[.slice A0 l0.length c0] 36 (0, 0))) ∧ Aside0 (WFo_ o wr ∧ Free_ o wr Bn)) (fun v _ => l0.length - (intOf v).toNat)
  case atStart => exact ⟨0, [], rfl, Nat.zero_le _, ⟨Nat.le_refl _⟩, ⟨rfl⟩, ⟨h0⟩, ⟨Below.refl _ _, Nat.le_refl _⟩, ⟨hBn⟩, ⟨hWF, hfree⟩⟩
  case round =>
    obtain ⟨k, pre, rfl, hk, HP, HR, HJ, HB, HBn, HW⟩ := hrel
    have hb0 := blk_cell HBn.out 0
    have hb1 : wr.cell? ⟨Bn, 0, none⟩ = some (.slice A0 l0.length c0) := hb0.trans rfl
    clear hb0
    have HC := Aside0.mk hC
    have HJ' := Aside0.mk hJ
    have HY := Aside0.mk hY
    clear hC hJ hY hBn hWF hfree
    by_cases hlt : k < l0.length
    · have hCk := HC.out wr HB.out.1
      obtain ⟨ad, e, x0, x1, x2⟩ := at_T71 hCk (k : Int) (by omega) (by omega)
      subst e
      rw [Int.toNat_natCast] at x0 x1 x2
      obtain ⟨c, hcc⟩ : ∃ c, rd_T71 l0 (k : Int) = c := ⟨_, rfl⟩
      have HAT := Aside0.mk (show l0[k]? = some c by rw [← hcc]; exact rd_at_ hlt)
      rw [hcc] at x0 x1 x2
      have HCk := Aside0.mk hCk
      clear hcc hCk
      have hb1a := fun o' => cell_alloc_ (W := wr) o' hb1
      have x0a := fun o' => cell_alloc_ (W := wr) o' x0
      have x1a := fun o' => cell_alloc_ (W := wr) o' x1
      have x2a := fun o' => cell_alloc_ (W := wr) o' x2
      by_cases c10 : c.f0 = 10
      · have d10 : (c.f0 == 10) = true := beq_iff_eq.mpr c10
        have C10 := Aside0.mk c10
        clear c10
        go_wp2
        go_region
        go_wp2_with fail
        refine wp_loop_rounds 1 ?_
        rw [rounds_succ]
        go_wp2
        go_quiet (fail)
        go_upto_region 7 with (fail)
        obtain ⟨W2, hW2⟩ : ∃ W2, (wr.alloc (.cells #[.int .i64 (k : Int), .int .i64 ((k : Int) + 1), .int .i64 c.f1, .string c.f2, .int .i64 1] 103)).drew.drewN nq = W2 := ⟨_, rfl⟩
        have F := fresh_box_ wr (.cells #[.int .i64 (k : Int), .int .i64 ((k : Int) + 1), .int .i64 c.f1, .string c.f2, .int .i64 1] 103) nq
        rw [hW2] at F ⊢
        clear hW2 hb1a x0a x1a x2a hb1 x0 x1 x2
        obtain ⟨F1, F2, F3⟩ := F
        have HJ2 := HJ'.out pre wr W2 none HJ.out F3 (fun _ e => by cases e)
        obtain ⟨fn, tmps, assign, body, hy, hR⟩ := HY.out pre (runAt_ k c (l0.drop (k + 1))) W2 HJ2 (by have := HP.out; omega)
        rw [run_brk_ k c _ C10.out] at hy
        have hF2 := blk_cell F2 0
        have g0 : W2.cell? ⟨wr.heap.size, 0, none⟩ = some (.int .i64 (k : Int)) := (blk_cell F2 0).trans rfl
        have g1 : W2.cell? ⟨wr.heap.size, 1, none⟩ = some (.int .i64 ((k : Int) + 1)) := (blk_cell F2 1).trans rfl
        have g2 : W2.cell? ⟨wr.heap.size, 2, none⟩ = some (.int .i64 c.f1) := (blk_cell F2 2).trans rfl
        have g3 : W2.cell? ⟨wr.heap.size, 3, none⟩ = some (.string c.f2) := (blk_cell F2 3).trans rfl
        have g4 : W2.cell? ⟨wr.heap.size, 4, none⟩ = some (.int .i64 1) := (blk_cell F2 4).trans rfl
        clear hF2
        have KP := Kp_.grown (n₀ := n₀) (o := o) (A := wr) (B := W2) (by have := HB.out.2; omega) (by have := HB.out.2; omega) F1
        have NF := Aside0.mk (free_new_ HW.out.1 (show o < wr.heap.size by have := HB.out.2; omega) F1 (Nat.le_refl _) F2)
        have KQ := Aside0.mk (KP.2 HW.out.1)
        have KB := Aside0.mk KP.1
        have FF2 := Aside0.mk F2
        have FF1 := Aside0.mk F1
        clear KP F1 F2 F3 HJ2
        refine (wpIn_wide (n := n)).1 ?_
        gi_wp2
        refine hR.mono ?_
        rintro e W3 (⟨rfl, hJ3, hk3⟩ | ⟨rfl, hJx3⟩)
        · have K3 := Aside0.mk (hk3.2 KQ.out.1)
          have h1 : W3.cell? ⟨wr.heap.size, 1, none⟩ = some (.int .i64 ((k : Int) + 1)) := (blk_cell ((K3.out.2 _ NF.out).1.trans FF2.out) 1).trans rfl
          have HB3 := Aside0.mk (show Below n₀ W W3 ∧ W.heap.size ≤ W3.heap.size from ⟨(HB.out.1.trans KB.out).trans hk3.1, Nat.le_trans HB.out.2 (Nat.le_trans KB.out.size hk3.1.size)⟩)
          have HBn3 := Aside0.mk (show W3.heap[Bn]? = some (.cells #[.slice (some ad) l0.length c0] 36 (0, 0)) from ((K3.out.2 Bn (KQ.out.2 Bn HW.out.2).2).1.trans (KQ.out.2 Bn HW.out.2).1).trans HBn.out)
          have HW3 := Aside0.mk (show WFo_ o W3 ∧ Free_ o W3 Bn from ⟨K3.out.1, (K3.out.2 Bn (KQ.out.2 Bn HW.out.2).2).2⟩)
          have HR3 := Aside0.mk (show (pre ++ [runAt_ k c (l0.drop (k + 1))]) ++ runsFrom_ (l0.length - (k + 1)) (k + 1) (l0.drop (k + 1)) = runs_ l0 by
            have e_ := runsFrom_step_ l0 k c HAT.out
            rw [if_pos C10.out] at e_
            rw [List.append_assoc, ← HR.out, e_]
            rfl)
          have HJ3 := Aside0.mk hJ3
          clear hk3 hJ3 hR hy
          gi_wp2
          go_wp2
          go_roundw
          case rel => exact ⟨k + 1, _, by go_num, by omega, ⟨by have := HP.out; simp; omega⟩, HR3, HJ3, HB3, HBn3, HW3⟩
          case measure => simp [intOf]; omega
        · gi_wp2
          go_wp2
          refine bodyPost_ret (results_none rfl _ _ _) rfl ?_
          exact ⟨⟨_, rfl⟩, .inr ⟨_, trivial, hJx3⟩⟩
      · have d10 : (c.f0 == 10) = false := beq_eq_false_iff_ne.mpr c10
        have C10 := Aside0.mk c10
        clear c10
        go_wp2
        go_region
        go_wp2_with fail
        go_loopg [30] (l0.length - (k + 1)) (fun d _ w' => ∃ (j nq : Nat), w' = (wr.alloc (.cells #[.int .i64 (k : Int), .int .i64 (j : Int), .int .i64 c.f1, .string c.f2, .int .i64 0] 103)).drewN nq ∧ Aside0 (d = l0.length - j) ∧ k + 1 ≤ j ∧ j ≤ l0.length ∧ Aside0 ((j - (k + 1)) + ext_ c.f1 c.f2 (l0.drop j) = ext_ c.f1 c.f2 (l0.drop (k + 1))))
        case atStart => exact ⟨k + 1, 1, rfl, ⟨rfl⟩, Nat.le_refl _, by omega, ⟨by rw [Nat.sub_self, Nat.zero_add]⟩⟩
        case round =>
        obtain ⟨j, nz, rfl, HD, hj1, hj2, HE⟩ := hrel
        have hq : ∀ (o' : Obj) (m : Nat) (a : Addr), ((wr.alloc o').drewN m).cell? a = (wr.alloc o').cell? a := fun _ _ _ => rfl
        by_cases hlj : j < l0.length
        · obtain ⟨ad', e', y0, y1, y2⟩ := at_T71 HCk.out (j : Int) (by omega) (by omega)
          cases e'
          rw [Int.toNat_natCast] at y0 y1 y2
          obtain ⟨y, hyy⟩ : ∃ y, rd_T71 l0 (j : Int) = y := ⟨_, rfl⟩
          have HAJ := Aside0.mk (show l0[j]? = some y by rw [← hyy]; exact rd_at_ hlj)
          rw [hyy] at y0 y1 y2
          clear hyy
          have y0a := fun o' => cell_alloc_ (W := wr) o' y0
          have y1a := fun o' => cell_alloc_ (W := wr) o' y1
          have y2a := fun o' => cell_alloc_ (W := wr) o' y2
          by_cases e0 : y.f0 = 10
          · have t0 : (y.f0 != 10) = false := bne_eq_false_iff_eq.mpr e0
            have HX := Aside0.mk (show ext_ c.f1 c.f2 (l0.drop (k + 1)) = j - (k + 1) by
              have h_ := ext_step_ c.f1 c.f2 l0 j y HAJ.out
              rw [if_neg (fun h => h.1 e0)] at h_
              have h2_ := HE.out
              omega)
            clear e0
            go_wp2
            go_quiet (fail)
            go_upto_region 7 with (fail)
            obtain ⟨W2, hW2⟩ : ∃ W2, ((wr.alloc (.cells #[.int .i64 (k : Int), .int .i64 (j : Int), .int .i64 c.f1, .string c.f2, .int .i64 0] 103)).drewN nz).drewN nq = W2 := ⟨_, rfl⟩
            have F := fresh_boxN_ wr (.cells #[.int .i64 (k : Int), .int .i64 (j : Int), .int .i64 c.f1, .string c.f2, .int .i64 0] 103) nz nq
            rw [hW2] at F ⊢
            clear hW2 hb1a x0a x1a x2a hb1 x0 x1 x2 hq
            obtain ⟨F1, F2, F3⟩ := F
            have HJ2 := HJ'.out pre wr W2 none HJ.out F3 (fun _ e => by cases e)
            obtain ⟨fn, tmps, assign, body, hy, hR⟩ := HY.out pre (runAt_ k c (l0.drop (k + 1))) W2 HJ2 (by have := HP.out; omega)
            rw [run_not_ k c _ (j - (k + 1)) C10.out HX.out, show k + 1 + (j - (k + 1)) = j by omega] at hy
            have hF2 := blk_cell F2 0
            have g0 : W2.cell? ⟨wr.heap.size, 0, none⟩ = some (.int .i64 (k : Int)) := (blk_cell F2 0).trans rfl
            have g1 : W2.cell? ⟨wr.heap.size, 1, none⟩ = some (.int .i64 (j : Int)) := (blk_cell F2 1).trans rfl
            have g2 : W2.cell? ⟨wr.heap.size, 2, none⟩ = some (.int .i64 c.f1) := (blk_cell F2 2).trans rfl
            have g3 : W2.cell? ⟨wr.heap.size, 3, none⟩ = some (.string c.f2) := (blk_cell F2 3).trans rfl
            have g4 : W2.cell? ⟨wr.heap.size, 4, none⟩ = some (.int .i64 0) := (blk_cell F2 4).trans rfl
            clear hF2
            have KP := Kp_.grown (n₀ := n₀) (o := o) (A := wr) (B := W2) (by have := HB.out.2; omega) (by have := HB.out.2; omega) F1
            have NF := Aside0.mk (free_new_ HW.out.1 (show o < wr.heap.size by have := HB.out.2; omega) F1 (Nat.le_refl _) F2)
            have KQ := Aside0.mk (KP.2 HW.out.1)
            have KB := Aside0.mk KP.1
            have FF2 := Aside0.mk F2
            have FF1 := Aside0.mk F1
            clear KP F1 F2 F3 HJ2
            refine (wpIn_wide (n := n)).1 ?_
            gi_wp2
            refine hR.mono ?_
            rintro e W3 (⟨rfl, hJ3, hk3⟩ | ⟨rfl, hJx3⟩)
            · have K3 := Aside0.mk (hk3.2 KQ.out.1)
              have h1 : W3.cell? ⟨wr.heap.size, 1, none⟩ = some (.int .i64 (j : Int)) := (blk_cell ((K3.out.2 _ NF.out).1.trans FF2.out) 1).trans rfl
              have HB3 := Aside0.mk (show Below n₀ W W3 ∧ W.heap.size ≤ W3.heap.size from ⟨(HB.out.1.trans KB.out).trans hk3.1, Nat.le_trans HB.out.2 (Nat.le_trans KB.out.size hk3.1.size)⟩)
              have HBn3 := Aside0.mk (show W3.heap[Bn]? = some (.cells #[.slice (some ad) l0.length c0] 36 (0, 0)) from ((K3.out.2 Bn (KQ.out.2 Bn HW.out.2).2).1.trans (KQ.out.2 Bn HW.out.2).1).trans HBn.out)
              have HW3 := Aside0.mk (show WFo_ o W3 ∧ Free_ o W3 Bn from ⟨K3.out.1, (K3.out.2 Bn (KQ.out.2 Bn HW.out.2).2).2⟩)
              have HR3 := Aside0.mk (show (pre ++ [runAt_ k c (l0.drop (k + 1))]) ++ runsFrom_ (l0.length - j) j (l0.drop j) = runs_ l0 by
                have e_ := runsFrom_step_ l0 k c HAT.out
                rw [if_neg C10.out, HX.out, show k + 1 + (j - (k + 1)) = j by omega] at e_
                rw [List.append_assoc, ← HR.out, e_]
                rfl)
              have HJ3 := Aside0.mk hJ3
              clear hk3 hJ3 hR hy
              gi_wp2
              go_wp2
              go_roundw
              case rel => exact ⟨j, _, rfl, hj2, ⟨by have := HP.out; simp; omega⟩, HR3, HJ3, HB3, HBn3, HW3⟩
              case measure => simp [intOf]; omega
            · gi_wp2
              go_wp2
              refine bodyPost_ret (results_none rfl _ _ _) rfl ?_
              exact ⟨⟨_, rfl⟩, .inr ⟨_, trivial, hJx3⟩⟩
          · have t0 : (y.f0 != 10) = true := bne_iff_ne.mpr e0
            have E0 := Aside0.mk e0
            clear e0
            by_cases e1 : y.f1 = c.f1
            · have t1 : (y.f1 == c.f1) = true := beq_iff_eq.mpr e1
              have E1 := Aside0.mk e1
              clear e1
              by_cases e2 : y.f2.toList = c.f2.toList
              · have t2 : (y.f2.toList == c.f2.toList) = true := beq_iff_eq.mpr e2
                have E2 := Aside0.mk e2
                clear e2
                go_wp2
                go_quiet (fail)
                go_wp2
                go_roundg (l0.length - (j + 1))
                case rel => exact ⟨j + 1, _, box_to_ _ _ _ _ _ _ _ _ _, ⟨rfl⟩, by omega, by omega, ⟨by have h_ := ext_step_ c.f1 c.f2 l0 j y HAJ.out; rw [if_pos ⟨E0.out, E1.out, E2.out⟩] at h_; have h2_ := HE.out; omega⟩⟩
                case measure => have := HD.out; omega
              · have t2 : (y.f2.toList == c.f2.toList) = false := beq_eq_false_iff_ne.mpr e2
                have HX := Aside0.mk (show ext_ c.f1 c.f2 (l0.drop (k + 1)) = j - (k + 1) by
                  have h_ := ext_step_ c.f1 c.f2 l0 j y HAJ.out
                  rw [if_neg (fun h => e2 h.2.2)] at h_
                  have h2_ := HE.out
                  omega)
                clear e2
                go_wp2
                go_quiet (fail)
                go_upto_region 7 with (fail)
                obtain ⟨W2, hW2⟩ : ∃ W2, ((wr.alloc (.cells #[.int .i64 (k : Int), .int .i64 (j : Int), .int .i64 c.f1, .string c.f2, .int .i64 0] 103)).drewN nz).drewN nq = W2 := ⟨_, rfl⟩
                have F := fresh_boxN_ wr (.cells #[.int .i64 (k : Int), .int .i64 (j : Int), .int .i64 c.f1, .string c.f2, .int .i64 0] 103) nz nq
                rw [hW2] at F ⊢
                clear hW2 hb1a x0a x1a x2a hb1 x0 x1 x2 hq
                obtain ⟨F1, F2, F3⟩ := F
                have HJ2 := HJ'.out pre wr W2 none HJ.out F3 (fun _ e => by cases e)
                obtain ⟨fn, tmps, assign, body, hy, hR⟩ := HY.out pre (runAt_ k c (l0.drop (k + 1))) W2 HJ2 (by have := HP.out; omega)
                rw [run_not_ k c _ (j - (k + 1)) C10.out HX.out, show k + 1 + (j - (k + 1)) = j by omega] at hy
                have hF2 := blk_cell F2 0
                have g0 : W2.cell? ⟨wr.heap.size, 0, none⟩ = some (.int .i64 (k : Int)) := (blk_cell F2 0).trans rfl
                have g1 : W2.cell? ⟨wr.heap.size, 1, none⟩ = some (.int .i64 (j : Int)) := (blk_cell F2 1).trans rfl
                have g2 : W2.cell? ⟨wr.heap.size, 2, none⟩ = some (.int .i64 c.f1) := (blk_cell F2 2).trans rfl
                have g3 : W2.cell? ⟨wr.heap.size, 3, none⟩ = some (.string c.f2) := (blk_cell F2 3).trans rfl
                have g4 : W2.cell? ⟨wr.heap.size, 4, none⟩ = some (.int .i64 0) := (blk_cell F2 4).trans rfl
                clear hF2
                have KP := Kp_.grown (n₀ := n₀) (o := o) (A := wr) (B := W2) (by have := HB.out.2; omega) (by have := HB.out.2; omega) F1
                have NF := Aside0.mk (free_new_ HW.out.1 (show o < wr.heap.size by have := HB.out.2; omega) F1 (Nat.le_refl _) F2)
                have KQ := Aside0.mk (KP.2 HW.out.1)
                have KB := Aside0.mk KP.1
                have FF2 := Aside0.mk F2
                have FF1 := Aside0.mk F1
                clear KP F1 F2 F3 HJ2
                refine (wpIn_wide (n := n)).1 ?_
                gi_wp2
                refine hR.mono ?_
                rintro e W3 (⟨rfl, hJ3, hk3⟩ | ⟨rfl, hJx3⟩)
                · have K3 := Aside0.mk (hk3.2 KQ.out.1)
                  have h1 : W3.cell? ⟨wr.heap.size, 1, none⟩ = some (.int .i64 (j : Int)) := (blk_cell ((K3.out.2 _ NF.out).1.trans FF2.out) 1).trans rfl
                  have HB3 := Aside0.mk (show Below n₀ W W3 ∧ W.heap.size ≤ W3.heap.size from ⟨(HB.out.1.trans KB.out).trans hk3.1, Nat.le_trans HB.out.2 (Nat.le_trans KB.out.size hk3.1.size)⟩)
                  have HBn3 := Aside0.mk (show W3.heap[Bn]? = some (.cells #[.slice (some ad) l0.length c0] 36 (0, 0)) from ((K3.out.2 Bn (KQ.out.2 Bn HW.out.2).2).1.trans (KQ.out.2 Bn HW.out.2).1).trans HBn.out)
                  have HW3 := Aside0.mk (show WFo_ o W3 ∧ Free_ o W3 Bn from ⟨K3.out.1, (K3.out.2 Bn (KQ.out.2 Bn HW.out.2).2).2⟩)
                  have HR3 := Aside0.mk (show (pre ++ [runAt_ k c (l0.drop (k + 1))]) ++ runsFrom_ (l0.length - j) j (l0.drop j) = runs_ l0 by
                    have e_ := runsFrom_step_ l0 k c HAT.out
                    rw [if_neg C10.out, HX.out, show k + 1 + (j - (k + 1)) = j by omega] at e_
                    rw [List.append_assoc, ← HR.out, e_]
                    rfl)
                  have HJ3 := Aside0.mk hJ3
                  clear hk3 hJ3 hR hy
                  gi_wp2
                  go_wp2
                  go_roundw
                  case rel => exact ⟨j, _, rfl, hj2, ⟨by have := HP.out; simp; omega⟩, HR3, HJ3, HB3, HBn3, HW3⟩
                  case measure => simp [intOf]; omega
                · gi_wp2
                  go_wp2
                  refine bodyPost_ret (results_none rfl _ _ _) rfl ?_
                  exact ⟨⟨_, rfl⟩, .inr ⟨_, trivial, hJx3⟩⟩
            · have t1 : (y.f1 == c.f1) = false := beq_eq_false_iff_ne.mpr e1
              have HX := Aside0.mk (show ext_ c.f1 c.f2 (l0.drop (k + 1)) = j - (k + 1) by
                have h_ := ext_step_ c.f1 c.f2 l0 j y HAJ.out
                rw [if_neg (fun h => e1 h.2.1)] at h_
                have h2_ := HE.out
                omega)
              clear e1
              go_wp2
              go_quiet (fail)
              go_upto_region 7 with (fail)
              obtain ⟨W2, hW2⟩ : ∃ W2, ((wr.alloc (.cells #[.int .i64 (k : Int), .int .i64 (j : Int), .int .i64 c.f1, .string c.f2, .int .i64 0] 103)).drewN nz).drewN nq = W2 := ⟨_, rfl⟩
              have F := fresh_boxN_ wr (.cells #[.int .i64 (k : Int), .int .i64 (j : Int), .int .i64 c.f1, .string c.f2, .int .i64 0] 103) nz nq
              rw [hW2] at F ⊢
              clear hW2 hb1a x0a x1a x2a hb1 x0 x1 x2 hq
              obtain ⟨F1, F2, F3⟩ := F
              have HJ2 := HJ'.out pre wr W2 none HJ.out F3 (fun _ e => by cases e)
              obtain ⟨fn, tmps, assign, body, hy, hR⟩ := HY.out pre (runAt_ k c (l0.drop (k + 1))) W2 HJ2 (by have := HP.out; omega)
              rw [run_not_ k c _ (j - (k + 1)) C10.out HX.out, show k + 1 + (j - (k + 1)) = j by omega] at hy
              have hF2 := blk_cell F2 0
              have g0 : W2.cell? ⟨wr.heap.size, 0, none⟩ = some (.int .i64 (k : Int)) := (blk_cell F2 0).trans rfl
              have g1 : W2.cell? ⟨wr.heap.size, 1, none⟩ = some (.int .i64 (j : Int)) := (blk_cell F2 1).trans rfl
              have g2 : W2.cell? ⟨wr.heap.size, 2, none⟩ = some (.int .i64 c.f1) := (blk_cell F2 2).trans rfl
              have g3 : W2.cell? ⟨wr.heap.size, 3, none⟩ = some (.string c.f2) := (blk_cell F2 3).trans rfl
              have g4 : W2.cell? ⟨wr.heap.size, 4, none⟩ = some (.int .i64 0) := (blk_cell F2 4).trans rfl
              clear hF2
              have KP := Kp_.grown (n₀ := n₀) (o := o) (A := wr) (B := W2) (by have := HB.out.2; omega) (by have := HB.out.2; omega) F1
              have NF := Aside0.mk (free_new_ HW.out.1 (show o < wr.heap.size by have := HB.out.2; omega) F1 (Nat.le_refl _) F2)
              have KQ := Aside0.mk (KP.2 HW.out.1)
              have KB := Aside0.mk KP.1
              have FF2 := Aside0.mk F2
              have FF1 := Aside0.mk F1
              clear KP F1 F2 F3 HJ2
              refine (wpIn_wide (n := n)).1 ?_
              gi_wp2
              refine hR.mono ?_
              rintro e W3 (⟨rfl, hJ3, hk3⟩ | ⟨rfl, hJx3⟩)
              · have K3 := Aside0.mk (hk3.2 KQ.out.1)
                have h1 : W3.cell? ⟨wr.heap.size, 1, none⟩ = some (.int .i64 (j : Int)) := (blk_cell ((K3.out.2 _ NF.out).1.trans FF2.out) 1).trans rfl
                have HB3 := Aside0.mk (show Below n₀ W W3 ∧ W.heap.size ≤ W3.heap.size from ⟨(HB.out.1.trans KB.out).trans hk3.1, Nat.le_trans HB.out.2 (Nat.le_trans KB.out.size hk3.1.size)⟩)
                have HBn3 := Aside0.mk (show W3.heap[Bn]? = some (.cells #[.slice (some ad) l0.length c0] 36 (0, 0)) from ((K3.out.2 Bn (KQ.out.2 Bn HW.out.2).2).1.trans (KQ.out.2 Bn HW.out.2).1).trans HBn.out)
                have HW3 := Aside0.mk (show WFo_ o W3 ∧ Free_ o W3 Bn from ⟨K3.out.1, (K3.out.2 Bn (KQ.out.2 Bn HW.out.2).2).2⟩)
                have HR3 := Aside0.mk (show (pre ++ [runAt_ k c (l0.drop (k + 1))]) ++ runsFrom_ (l0.length - j) j (l0.drop j) = runs_ l0 by
                  have e_ := runsFrom_step_ l0 k c HAT.out
                  rw [if_neg C10.out, HX.out, show k + 1 + (j - (k + 1)) = j by omega] at e_
                  rw [List.append_assoc, ← HR.out, e_]
                  rfl)
                have HJ3 := Aside0.mk hJ3
                clear hk3 hJ3 hR hy
                gi_wp2
                go_wp2
                go_roundw
                case rel => exact ⟨j, _, rfl, hj2, ⟨by have := HP.out; simp; omega⟩, HR3, HJ3, HB3, HBn3, HW3⟩
                case measure => simp [intOf]; omega
              · gi_wp2
                go_wp2
                refine bodyPost_ret (results_none rfl _ _ _) rfl ?_
                exact ⟨⟨_, rfl⟩, .inr ⟨_, trivial, hJx3⟩⟩
        · have HX := Aside0.mk (show ext_ c.f1 c.f2 (l0.drop (k + 1)) = j - (k + 1) by
            have h2_ := HE.out
            rw [show l0.drop j = [] from List.drop_of_length_le (by omega)] at h2_
            exact h2_.symm)
          go_wp2
          go_quiet (fail)
          go_upto_region 7 with (fail)
          obtain ⟨W2, hW2⟩ : ∃ W2, ((wr.alloc (.cells #[.int .i64 (k : Int), .int .i64 (j : Int), .int .i64 c.f1, .string c.f2, .int .i64 0] 103)).drewN nz).drewN nq = W2 := ⟨_, rfl⟩
          have F := fresh_boxN_ wr (.cells #[.int .i64 (k : Int), .int .i64 (j : Int), .int .i64 c.f1, .string c.f2, .int .i64 0] 103) nz nq
          rw [hW2] at F ⊢
          clear hW2 hb1a x0a x1a x2a hb1 x0 x1 x2 hq
          obtain ⟨F1, F2, F3⟩ := F
          have HJ2 := HJ'.out pre wr W2 none HJ.out F3 (fun _ e => by cases e)
          obtain ⟨fn, tmps, assign, body, hy, hR⟩ := HY.out pre (runAt_ k c (l0.drop (k + 1))) W2 HJ2 (by have := HP.out; omega)
          rw [run_not_ k c _ (j - (k + 1)) C10.out HX.out, show k + 1 + (j - (k + 1)) = j by omega] at hy
          have hF2 := blk_cell F2 0
          have g0 : W2.cell? ⟨wr.heap.size, 0, none⟩ = some (.int .i64 (k : Int)) := (blk_cell F2 0).trans rfl
          have g1 : W2.cell? ⟨wr.heap.size, 1, none⟩ = some (.int .i64 (j : Int)) := (blk_cell F2 1).trans rfl
          have g2 : W2.cell? ⟨wr.heap.size, 2, none⟩ = some (.int .i64 c.f1) := (blk_cell F2 2).trans rfl
          have g3 : W2.cell? ⟨wr.heap.size, 3, none⟩ = some (.string c.f2) := (blk_cell F2 3).trans rfl
          have g4 : W2.cell? ⟨wr.heap.size, 4, none⟩ = some (.int .i64 0) := (blk_cell F2 4).trans rfl
          clear hF2
          have KP := Kp_.grown (n₀ := n₀) (o := o) (A := wr) (B := W2) (by have := HB.out.2; omega) (by have := HB.out.2; omega) F1
          have NF := Aside0.mk (free_new_ HW.out.1 (show o < wr.heap.size by have := HB.out.2; omega) F1 (Nat.le_refl _) F2)
          have KQ := Aside0.mk (KP.2 HW.out.1)
          have KB := Aside0.mk KP.1
          have FF2 := Aside0.mk F2
          have FF1 := Aside0.mk F1
          clear KP F1 F2 F3 HJ2
          refine (wpIn_wide (n := n)).1 ?_
          gi_wp2
          refine hR.mono ?_
          rintro e W3 (⟨rfl, hJ3, hk3⟩ | ⟨rfl, hJx3⟩)
          · have K3 := Aside0.mk (hk3.2 KQ.out.1)
            have h1 : W3.cell? ⟨wr.heap.size, 1, none⟩ = some (.int .i64 (j : Int)) := (blk_cell ((K3.out.2 _ NF.out).1.trans FF2.out) 1).trans rfl
            have HB3 := Aside0.mk (show Below n₀ W W3 ∧ W.heap.size ≤ W3.heap.size from ⟨(HB.out.1.trans KB.out).trans hk3.1, Nat.le_trans HB.out.2 (Nat.le_trans KB.out.size hk3.1.size)⟩)
            have HBn3 := Aside0.mk (show W3.heap[Bn]? = some (.cells #[.slice (some ad) l0.length c0] 36 (0, 0)) from ((K3.out.2 Bn (KQ.out.2 Bn HW.out.2).2).1.trans (KQ.out.2 Bn HW.out.2).1).trans HBn.out)
            have HW3 := Aside0.mk (show WFo_ o W3 ∧ Free_ o W3 Bn from ⟨K3.out.1, (K3.out.2 Bn (KQ.out.2 Bn HW.out.2).2).2⟩)
            have HR3 := Aside0.mk (show (pre ++ [runAt_ k c (l0.drop (k + 1))]) ++ runsFrom_ (l0.length - j) j (l0.drop j) = runs_ l0 by
              have e_ := runsFrom_step_ l0 k c HAT.out
              rw [if_neg C10.out, HX.out, show k + 1 + (j - (k + 1)) = j by omega] at e_
              rw [List.append_assoc, ← HR.out, e_]
              rfl)
            have HJ3 := Aside0.mk hJ3
            clear hk3 hJ3 hR hy
            gi_wp2
            go_wp2
            go_roundw
            case rel => exact ⟨j, _, rfl, hj2, ⟨by have := HP.out; simp; omega⟩, HR3, HJ3, HB3, HBn3, HW3⟩
            case measure => simp [intOf]; omega
          · gi_wp2
            go_wp2
            refine bodyPost_ret (results_none rfl _ _ _) rfl ?_
            exact ⟨⟨_, rfl⟩, .inr ⟨_, trivial, hJx3⟩⟩
    · have HF := Aside0.mk (show pre = runs_ l0 by
        have h_ := HR.out
        rw [show l0.length - k = 0 by omega] at h_
        simpa [runsFrom_] using h_)
      go_wp2
      go_end0
      exact ⟨⟨_, rfl⟩, .inl ⟨pre, HF.out, HJ.out⟩⟩

end Go.Proofs.YtgdpknmffohhaaaDoor.Pl

namespace Go.Proofs.YtgdpknmffohhaaaDoor.Pl
open Go.RowKit Go.Proofs.YtgdpknmffohhaaaDoorW.PrintWords Go.Proofs.YtgdpknmffohhaaaDoorW.PrintLast Go.Proofs.YtgdpknmffohhaaaDoorW.PrintMore
attribute [local go_sem] max2_int min2_int max_two min_two max_three min_three max_four min_four   -- for this text's walks alone
set_option linter.unusedVariables false
set_option linter.unusedSimpArgs false

/-! ### cells_Runs: function 97 (given) -/
attribute [local go_sem] Oper.semAt_some
def cells_Runs.f (l0 : List (S71)) : Option (List (S103)) := if l0.length ≤ 1000000000 then some (runs_ l0) else none
def rcells1_ (x : S103) : List Value := [.int .i64 x.f0, .int .i64 x.f1, .int .i64 x.f2, .string x.f3, .int .i64 x.f4]
def rcells_ (xs : List S103) : List Value := xs.flatMap rcells1_
theorem rcells_length_ (xs : List S103) : (rcells_ xs).length = xs.length * 5 := by
  induction xs with
  | nil => rfl
  | cons x t ih => simp only [rcells_, List.flatMap_cons, List.length_append, List.length_cons] at ih ⊢; rw [ih]; simp [rcells1_]; omega
theorem rcells_snoc_ (xs : List S103) (x : S103) : rcells_ (xs ++ [x]) = rcells_ xs ++ rcells1_ x := by simp [rcells_]
theorem reps_cells_ (W : World) (b : Nat) (ok : Nat → Prop) : ∀ xs : List S103, Reps (k103.M W b ok) 5 xs (rcells_ xs)
  | [] => Reps.none _ _
  | x :: t => by
    have ih := reps_cells_ W b ok t
    refine ⟨rcells_length_ _, fun j p hj => ?_⟩
    have e : rcells_ (x :: t) = rcells1_ x ++ rcells_ t := by simp [rcells_]
    rw [e]
    cases j with
    | zero =>
      cases hj
      exact k103_mkM _ _ _ x
    | succ j =>
      have e5 : (rcells1_ x ++ rcells_ t).drop ((j + 1) * 5) = (rcells_ t).drop (j * 5) := by
        rw [show (j + 1) * 5 = 5 + j * 5 by omega, ← List.drop_drop]
        rfl
      rw [e5]
      exact ih.2 j p (by simpa using hj)
theorem kp_app_ {W w1 : World} {n₀ o : Nat} {v v' : Value} {e : TypeId} {k m : Nat} {ys : List Value} {tmp : Obj} (hv : Boxed W o 96 v) (hb : Below n₀ W (w1.setCell ⟨o, 0, none⟩ v'))
    (hv2 : Boxed (w1.setCell ⟨o, 0, none⟩ v') o 96 v') (hgrow : (W.alloc tmp).grownBy w1 v.ownBlock) (hown : (w1.setCell ⟨o, 0, none⟩ v').ownsRow n₀ e k v' m ys)
    (hat : v'.ownBlock = v.ownBlock ∨ v'.ownBlock = some (W.heap.size + 1)) : Kp_ n₀ o W (w1.setCell ⟨o, 0, none⟩ v') := by
  refine Kp_.mk' hb (fun b hf => ?_) (fun _ u hu b he => ?_)
  · obtain ⟨⟨cs, t, fr, hc⟩, hne, hown⟩ := hf
    have hlt := (Array.getElem?_eq_some_iff.1 hc).1
    rw [Below.heap_setCell _ _ _ b hne, hgrow.block b (by simp; omega) (fun e => hown v hv.cell e.symm)]
    exact Below.heap_alloc W tmp b hlt
  · rw [hv2.cell] at hu
    cases hu
    refine ⟨(hown.lt b he).2, ?_⟩
    rcases hat with h | h
    · exact .inl ⟨v, hv.cell, by rw [← h]; exact he⟩
    · rw [h] at he
      cases he
      exact .inr (by omega)
set_option maxHeartbeats 1000000 in
theorem runsMake_ (A0 : Option Addr) (n c0 : Nat) (w : World) : Calls Tryd.prog 126 #[.slice A0 n c0] w fun e w' => e = .returned (.func (.func 139) #[] #[.pointer (some ⟨w.heap.size, 0, none⟩)]) ∧ w' = w.alloc (.cells #[.slice A0 n c0] 36) := by
  go_enter Tryd.func126, Tryd.ntmps126
  go_wp2
  go_ret
  exact ⟨rfl, rfl⟩
set_option maxRecDepth 100000 in
set_option maxHeartbeats 8000000 in
theorem cells_Runs.calls (A0 : Option Addr) (c0 : Nat) (l0 : List (S71)) (r : List (S103)) (w : World) (hr0 : Kd.C k71 w A0 l0.length l0) (hc0 : l0.length ≤ c0) (h : cells_Runs.f l0 = some r) :
    Calls Tryd.prog 97 #[.slice A0 l0.length c0] w fun e w' => ∃ v0_ : Value, e = .returned (v0_) ∧ Kd.R k103 103 w' w.heap.size (fun _ => True) v0_ r ∧ Below w.heap.size w w' := by
  unfold cells_Runs.f at h
  by_cases hl : l0.length ≤ 1000000000
  · rw [if_pos hl] at h
    obtain rfl := Option.some.inj h
    clear h
    obtain ⟨i0, hi, hz0, hz1, hz2⟩ := info_parts info103
    refine (callsIn_wide (n := 3)).1 ?_
    refine callsIn_of_wp_marks Tryd.func97 rfl trivial ?_ rfl
    simp only [Tryd.ntmps97, List.size_toArray, List.length_cons, List.length_nil, Nat.reduceAdd, Nat.reduceSub, Array.replicate_succ, Array.replicate_zero, List.push_toArray, List.append_toArray, List.nil_append, List.cons_append]
    have f22 : Fence.wide.fn 126 := trivial
    gi_wp2_with (gi_at_call 126; refine (callsIn_wide.2 (runsMake_ _ _ _ _)).mono ?_; rintro e w' ⟨rfl, rfl⟩)
    have bO := Boxed.new w 96 (.slice none 0 0)
    have bL := Boxed.new (w.alloc (.cells #[.slice none 0 0] 96)) 36 (.slice A0 l0.length c0)
    rw [World.size_alloc] at bL
    have hB0 : Below w.heap.size w ((w.alloc (.cells #[.slice none 0 0] 96)).alloc (.cells #[.slice A0 l0.length c0] 36)) := ((Below.refl _ w).alloc (Nat.le_refl _) _).alloc (by simp) _
    have hsz : ((w.alloc (.cells #[.slice none 0 0] 96)).alloc (.cells #[.slice A0 l0.length c0] 36)).heap.size = w.heap.size + 2 := by simp
    have bO := bO.alloc (.cells #[.slice A0 l0.length c0] 36)
    obtain ⟨W0, hW0⟩ : ∃ W0, (w.alloc (.cells #[.slice none 0 0] 96)).alloc (.cells #[.slice A0 l0.length c0] 36) = W0 := ⟨_, rfl⟩
    rw [hW0] at bO bL hB0 hsz ⊢
    clear hW0
    refine wpIn_rangeFunc_ownH (F := Fence.wide) rfl (by omega) (gf := 139) (lb := #[.pointer (some ⟨w.heap.size + 1, 0, none⟩)]) rfl trivial (enters_of Tryd.func139 (by kernel_rfl) rfl)
      (encs := encR_) (Kp := Kp_ w.heap.size w.heap.size) (S := fun ys => ys = runs_ l0) (Sp := fun _ => True) (N := l0.length) (w0 := W0)
      (fun l J Jx W hW hJ hJx hY h0 => callsIn_wide.2 (runs1_ (3 - 1) l (w.heap.size + 1) w.heap.size w.heap.size A0 c0 l0 J Jx W hJ hY ((hW.block _ (by omega)).trans bL) (fun W' hW' => Kd.C_below hr0 ((hB0.trans (hW.mono (by omega))).trans hW'))
        (fun v hv b hb => by rw [hW.cell (p := ⟨w.heap.size, 0, none⟩) (show w.heap.size < W0.heap.size by omega), bO.cell] at hv; cases hv; cases hb)
        ⟨⟨_, _, _, (hW.block _ (by omega)).trans bL⟩, by omega, fun v hv => by rw [hW.cell (p := ⟨w.heap.size, 0, none⟩) (show w.heap.size < W0.heap.size by omega), bO.cell] at hv; cases hv; simp [Value.ownBlock]⟩
        (by have := hW.size; omega) (by have := hW.size; omega) hl (by omega) h0))
      Kp_.trans (fun W l o o' hl ho hc _ => Kp_.putObj (N := W0.heap.size) (by omega) (by omega) W l o o' hl ho hc) (Below.refl _ _) (fun _ => rfl)
      (fun pre W => (∃ v, Boxed W w.heap.size 96 v ∧ W.ownsRow w.heap.size 103 5 v pre.length (rcells_ pre) ∧ True) ∧ Below w.heap.size w W)
      (fun _ _ _ => False)
      (OwnFrom.and (Own.from (holdsRow_own w.heap.size w.heap.size 96 103 5 (fun pre => pre.length) (fun pre => rcells_ pre) (fun _ _ => True)) _) (ownFrom_below (Nat.le_refl _) (by omega)))
      (fun _ _ _ _ _ hs _ _ => hs)
      ⟨⟨_, bO, World.ownsRow_nil _ _ _ _, trivial⟩, hB0⟩
      (fun x a' W => ∃ Bx, W.heap[Bx]? = some (.cells (rcells1_ x).toArray 103 (0, 0)) ∧ a' = { tmps := #[.slice A0 l0.length c0, undef, .slice none 0 0, .pointer (some ⟨w.heap.size, 0, none⟩), .pointer (some ⟨Bx, 0, none⟩), .slice A0 l0.length c0, .func (.func 139) #[] #[.pointer (some ⟨w.heap.size + 1, 0, none⟩)], .agg (rcells1_ x).toArray, undef, undef, undef, undef, undef], defers := [] })
      (fun x a' _ X Y row hs hg hr => by
        obtain ⟨Bx, h1, h2⟩ := hs
        refine ⟨Bx, (hg.block Bx (Array.getElem?_eq_some_iff.1 h1).1 (fun e => ?_)).trans h1, h2⟩
        obtain ⟨_, o, ho, hc⟩ := hr Bx e.symm
        rw [h1] at ho
        cases ho
        cases hc)
      ?assign ?body ?done ?stop
    case assign =>
      rintro l pre x W K ⟨⟨v, hv, hrow, _⟩, hB⟩ hK
      have hlo : w.heap.size < W.heap.size := hv.lt
      have he : encR_ x = #[.agg #[.int .i64 x.f0, .int .i64 x.f1, .int .i64 x.f2, .string x.f3, .int .i64 x.f4]] := rfl
      rw [he]
      gi_wp2
      exact hK _ _ ((KeepsOthers.alloc _ _).from _) (Kp_.grown (by omega) hlo (below_alloc (Below.refl _ _) _)) ⟨⟨v, hv.alloc _, hrow.alloc _, trivial⟩, hB.alloc hB.size _⟩ ⟨W.heap.size, heap_alloc_new W _, rfl⟩
    case body =>
      rintro l pre x a' W hl' ⟨rr, hr⟩ ⟨⟨v, hv, hrow, _⟩, hB⟩ ⟨Bx, hbx, rfl⟩ hlt
      have hc := hv.cell
      have b0 : W.cell? ⟨Bx, 0, none⟩ = some (.int .i64 x.f0) := (blk_cell hbx 0).trans rfl
      have b1 : W.cell? ⟨Bx, 1, none⟩ = some (.int .i64 x.f1) := (blk_cell hbx 1).trans rfl
      have b2 : W.cell? ⟨Bx, 2, none⟩ = some (.int .i64 x.f2) := (blk_cell hbx 2).trans rfl
      have b3 : W.cell? ⟨Bx, 3, none⟩ = some (.string x.f3) := (blk_cell hbx 3).trans rfl
      have b4 : W.cell? ⟨Bx, 4, none⟩ = some (.int .i64 x.f4) := (blk_cell hbx 4).trans rfl
      gi_wp2_with (gi_at_builtin; refine wpListIn_append_own_at _ rfl (.tmp 8) (.tmp 10) 96 rfl w.heap.size 103 i0 _ 5 48 Tryd.underlying96 hi hz0 hz1 hz2 rfl (by decide) v pre.length (rcells_ pre) rfl (hrow.alloc _) ⟨W.heap.size, 0, none⟩ 1 1 (rcells1_ x) rfl rfl (World.news_of_block (cs := (rcells1_ x).toArray) (t := 103) (fr := (0, 0)) (heap_alloc_new W _)) (by simp [rcells1_, Value.oneCell']) (by unfold maxLen; omega) (by omega) (by have := hB.size; simp; omega) ?_)
      intro v' w1 hown' hgrow _ hat
      obtain ⟨g', cap', rfl⟩ := ownsRow_succ hown'
      obtain ⟨hv1, hv2, hr2, hk2, hb2⟩ := hv.appended (by decide) hrow hB.size (Nat.le_refl _) hown' hgrow
      have hc1 := hv1.cell
      have hf1 := hv1.frozen
      have KP := Aside0.mk (kp_app_ hv hb2 hv2 hgrow hr2 hat)
      gi_wp2
      exact ⟨hk2.from _, KP.out, ⟨_, hv2, by rw [rcells_snoc_]; simpa using hr2, trivial⟩, hB.trans hb2⟩
    case done =>
      rintro D ys W hD rfl ⟨⟨v, hv, hrow, _⟩, hB⟩ hK
      have hc := hv.cell
      gi_wp2
      refine ⟨by simp, .inl ⟨_, _, rfl, run_takeDeferred hK, ?_⟩⟩
      have hrow2 := ownsRow_putObj hrow (.deferred none) hK rfl
      exact ⟨_, results_tmp rfl _ _ _, v, rfl, ⟨fun _ _ => trivial, rcells_ (runs_ l0), hrow2, reps_cells_ _ _ _ _⟩, hB.trans (belowK_b (w := w) (Nat.le_refl _) W D _ _ (by omega) hK rfl rfl)⟩
    case stop =>
      rintro D c pre W _ _ h _
      exact h.elim
  · rw [if_neg hl] at h
    exact absurd h (by simp)

end Go.Proofs.YtgdpknmffohhaaaDoor.Pl

namespace Go.Proofs.YtgdpknmffohhaaaDoor.Pl
open Go.RowKit Go.Proofs.YtgdpknmffohhaaaDoorW.PrintWords Go.Proofs.YtgdpknmffohhaaaDoorW.PrintLast Go.Proofs.YtgdpknmffohhaaaDoorW.PrintMore
attribute [local go_sem] max2_int min2_int max_two min_two max_three min_three max_four min_four   -- for this text's walks alone
set_option linter.unusedVariables false
set_option linter.unusedSimpArgs false

/-! ### lib_rows -/
theorem rowsN_ {W : World} {B : Nat} {ys : List (List S71)} (hn : ys.length ≤ 9223372036854775807) (h : ∀ j y, ys[j]? = some y → ∃ A c, W.cell? ⟨B, j, none⟩ = some (.slice A y.length c) ∧ y.length ≤ c ∧ Kd.C k71 W A y.length y) :
    Kd.C (Kd.slice 71 k71) W (some ⟨B, 0, none⟩) ys.length ys := by
  refine ⟨rfl, hn, fun _ => ⟨_, rfl, fun j y hj => ?_⟩⟩
  obtain ⟨A, c, hc, hl, hC⟩ := h j y hj
  refine ⟨[.slice A y.length c], rfl, ⟨A, c, rfl, hl, hC⟩, fun i u hu => ?_⟩
  cases i with
  | zero =>
    cases hu
    rw [show (Kd.slice 71 k71).sz = 1 from rfl, Nat.mul_one, Nat.add_zero, add_plain]
    exact hc
  | succ i => simp at hu
theorem infoC_ : ∃ i, Tryd.prog.info? 71 = some i ∧ i.size = 3 := by
  obtain ⟨i, hi, h⟩ := Option.map_eq_some_iff.1 info71
  simp only [Prod.mk.injEq] at h
  exact ⟨i, hi, h.2.1⟩
theorem takeC_ (A : Option Addr) (l : List S71) (c p : Nat) (hp : p ≤ l.length) (hc : l.length ≤ c) : ∀ W : World, (Instr.slice 36 (.slice A l.length c) none (some (.int .i64 (p : Int))) none).run Tryd.prog W = .ok (.slice A p c) W := by
  obtain ⟨i, hi, _⟩ := infoC_
  intro W
  have h := cut_to (P := Tryd.prog) 36 71 .i64 Tryd.underlying36 hi A l.length c (p : Int) (by omega) (by omega) hc W
  rwa [Int.toNat_natCast] at h
theorem dropC_ (A : Option Addr) (l : List S71) (c p : Nat) (hp : p ≤ l.length) (hc : l.length ≤ c) : ∃ (A1 : Option Addr) (c1 : Nat), (∀ W : World, (Instr.slice 36 (.slice A l.length c) (some (.int .i64 (p : Int))) none none).run Tryd.prog W = .ok (.slice A1 (l.length - p) c1) W) ∧ (l.drop p).length ≤ c1 ∧ ∀ w : World, Kd.C k71 w A l.length l → Kd.C k71 w A1 (l.drop p).length (l.drop p) := by
  obtain ⟨i, hi, hsz⟩ := infoC_
  refine ⟨if c = p then A else A.map (·.add (p * 3)), c - p, fun W => ?_, by rw [List.length_drop]; omega, fun w h => ?_⟩
  · have h := cut_from (P := Tryd.prog) 36 71 .i64 Tryd.underlying36 hi 3 hsz A l.length c (p : Int) (by omega) (by omega) W
    rwa [Int.toNat_natCast] at h
  · exact Kd.C_drop h hp hc
theorem twoRows_ (W : World) {A0 A1 : Option Addr} {c0 c1 n1 n2 : Nat} {y1 y2 : List S71} (e1 : y1.length = n1) (e2 : y2.length = n2) (h1 : n1 ≤ c0) (h2 : n2 ≤ c1) (C0 : Kd.C k71 W A0 y1.length y1) (C1 : Kd.C k71 W A1 y2.length y2) (t : TypeId) :
    Kd.C (Kd.slice 71 k71) (W.alloc (.cells #[.slice A0 n1 c0, .slice A1 n2 c1] t)) (some ⟨W.heap.size, 0, none⟩) [y1, y2].length [y1, y2] := by
  subst e1 e2
  refine rowsN_ (by simp) (fun j y hj => ?_)
  rcases j with _ | _ | j
  · cases hj
    exact ⟨A0, c0, (blk_cell (heap_alloc_new _ _) 0).trans rfl, h1, Kd.C_alloc C0 _⟩
  · cases hj
    exact ⟨A1, c1, (blk_cell (heap_alloc_new _ _) 1).trans rfl, h2, Kd.C_alloc C1 _⟩
  · simp at hj
end Go.Proofs.YtgdpknmffohhaaaDoor.Pl

namespace Go.Proofs.YtgdpknmffohhaaaDoor.Pl
open Go.RowKit Go.Proofs.YtgdpknmffohhaaaDoorW.PrintWords Go.Proofs.YtgdpknmffohhaaaDoorW.PrintLast Go.Proofs.YtgdpknmffohhaaaDoorW.PrintMore
attribute [local go_sem] max2_int min2_int max_two min_two max_three min_three max_four min_four   -- for this text's walks alone
set_option linter.unusedVariables false
set_option linter.unusedSimpArgs false

/-! ### lib_span -/
theorem span_yes_ {l0 : List (S71)} {a1 a2 : Int} (hs : spanned_ l0 a1 a2) : cells_span.f l0 a1 a2 = some true := by
  obtain ⟨h1, h2, h3⟩ := hs
  unfold cells_span.f
  rw [if_pos h1, if_pos h2, decide_eq_true h3]
theorem span_no_ {l0 : List (S71)} {a1 a2 : Int} (hs : ¬ spanned_ l0 a1 a2) : cells_span.f l0 a1 a2 = some false := by
  unfold spanned_ at hs
  unfold cells_span.f
  by_cases h1 : a1 ≥ 0
  · rw [if_pos h1]
    by_cases h2 : a1 ≤ a2
    · rw [if_pos h2, decide_eq_false (fun h3 => hs ⟨h1, h2, h3⟩)]
    · rw [if_neg h2]
  · rw [if_neg h1]

end Go.Proofs.YtgdpknmffohhaaaDoor.Pl

namespace Go.Proofs.YtgdpknmffohhaaaDoor.Pl
open Go.RowKit Go.Proofs.YtgdpknmffohhaaaDoorW.PrintWords Go.Proofs.YtgdpknmffohhaaaDoorW.PrintLast Go.Proofs.YtgdpknmffohhaaaDoorW.PrintMore
attribute [local go_sem] max2_int min2_int max_two min_two max_three min_three max_four min_four   -- for this text's walks alone
set_option linter.unusedVariables false
set_option linter.unusedSimpArgs false

/-! ### slices_Concat_Cell: function 127 (given) -/
def slices_Concat_Cell.f (l0 : List (List (S71))) : Option (List (S71)) := if l0.flatten.length < 4398046511104 then some l0.flatten else none
set_option maxHeartbeats 4000000 in
theorem growNil_ (n : Nat) (hn : n < 4398046511104) (w : World) :
    Calls Tryd.prog 140 #[.slice none 0 0, .int .i64 (n : Int)] w fun e w' => ∃ v0_ : Value, e = .returned (v0_) ∧ Kd.R k71 71 w' w.heap.size (fun _ => True) v0_ ([] : List S71) ∧ Below w.heap.size w w' := by
  have HB := Aside0.mk (Below.refl w.heap.size w)
  have HN := Aside0.mk hn
  by_cases h0 : n = 0
  · subst h0
    go_enter Tryd.func140, Tryd.ntmps140
    go_wp2
    go_ret
    exact ⟨_, rfl, Kd.R_nil _ _ _ _ _, Below.refl _ _⟩
  · have hn0 : 0 < n := by omega
    have hn1 : n ≤ 9223372036854775807 := by omega
    clear h0 hn
    go_enter Tryd.func140, Tryd.ntmps140
    go_wp2_with ((with_reducible refine gate_builtin (b := .append) (xs := #[.tmp 20, .tmp 21]) rfl ?_); at_builtin; refine Kd.R_append_zeros k71 (w0 := w) w.heap.size rfl (.tmp 20) (.tmp 21) 36 3 71 (.agg #[(.int .i32 0), (.int .i64 0), (.string ⟨#[]⟩)]) 32 rfl Tryd.underlying36 Tryd.underlying3 info71 rfl (by decide) (by omega) (.slice none 0 0) ([] : List S71) z71 (n : Int) (fun _ => True) rfl rfl ?aZ (fun _ _ => trivial) (Kd.R_nil _ _ _ _ _) (by omega) HB.out (Nat.le_refl _) ?aL ?_; (case aZ => exact k71_mkM _ _ _ z71); (case aL => have h_ := HN.out; simp only [List.length_nil]; omega); intro v1 w1 ho hb hg hat; obtain ⟨A1, c1, e1⟩ := Kd.R_slice ho; have hl1 := (List.length_nil (α := S71)); subst e1; have HO := Aside0.mk ho; have HB1 := Aside0.mk hb; clear ho hb hg hat)
    go_ret
    exact ⟨_, rfl, Kd.R_take HO.out (m := 0) (Nat.zero_le _), HB1.out⟩
theorem rows_at_ {w : World} {A0 : Option Addr} {l0 : List (List S71)} (hr0 : Kd.C (Kd.slice 71 k71) w A0 l0.length l0) (k : Nat) (hk : k < l0.length) :
    ∃ (ad : Addr) (Ak : Option Addr) (ck : Nat), A0 = some ad ∧ w.cell? (ad.add k) = some (.slice Ak (l0.getD k []).length ck) ∧ (l0.getD k []).length ≤ ck ∧ Kd.C k71 w Ak (l0.getD k []).length (l0.getD k []) := by
  obtain ⟨ad, e, hc⟩ := hr0.2.2 (by omega)
  obtain ⟨c, hl, hk1, hcell⟩ := hc k _ (List.getElem?_eq_getElem hk)
  obtain ⟨Ak, ck, rfl, hle, hC⟩ := hk1
  have h2 := hcell 0 _ rfl
  rw [show (Kd.slice 71 k71).sz = 1 from rfl, Nat.mul_one, Nat.add_zero] at h2
  have e2 : l0.getD k [] = l0[k] := by rw [List.getD_eq_getElem?_getD, List.getElem?_eq_getElem hk]; rfl
  rw [e2]
  exact ⟨ad, Ak, ck, e, h2, hle, hC⟩
theorem flat_step_ {α : Type} (l : List (List α)) (k : Nat) (hk : k < l.length) : (l.take (k + 1)).flatten = (l.take k).flatten ++ l.getD k [] := by
  rw [List.take_succ_eq_append_getElem hk, List.flatten_append, List.getD_eq_getElem?_getD, List.getElem?_eq_getElem hk]
  simp
theorem flat_le_ {α : Type} (l : List (List α)) (k : Nat) : (l.take k).flatten.length ≤ l.flatten.length := by
  have h : l.flatten = (l.take k).flatten ++ (l.drop k).flatten := by rw [← List.flatten_append, List.take_append_drop]
  rw [h, List.length_append]
  omega
set_option maxHeartbeats 4000000 in
theorem slices_Concat_Cell.calls (A0 : Option Addr) (c0 : Nat) (l0 : List (List (S71))) (r : List (S71)) (w : World) (hr0 : Kd.C (Kd.slice 71 k71) w A0 l0.length l0) (hc0 : l0.length ≤ c0) (h : slices_Concat_Cell.f l0 = some r) :
    Calls Tryd.prog 127 #[.slice A0 l0.length c0] w fun e w' => ∃ v0_ : Value, e = .returned (v0_) ∧ Kd.R k71 71 w' w.heap.size (fun _ => True) v0_ r ∧ Below w.heap.size w w' := by
  unfold slices_Concat_Cell.f at h
  by_cases hl : l0.flatten.length < 4398046511104
  · rw [if_pos hl] at h
    obtain rfl := Option.some.inj h
    have HR0 := Aside0.mk hr0
    have HL := Aside0.mk hl
    have hmx : l0.length ≤ 9223372036854775807 := hr0.2.1
    have HB := Aside0.mk (Below.refl w.heap.size w)
    clear hr0 hc0 hl h
    go_enter Tryd.func127, Tryd.ntmps127
    go_wp2
    go_loop [3, 11] (fun s v => ∃ k m1 : Nat, v = .int .i64 (k : Int) ∧ k ≤ l0.length ∧ s = .int .i64 (m1 : Int) ∧ Aside0 (m1 = (l0.take k).flatten.length)) (fun _ v => l0.length - (intOf v).toNat)
    case atStart => exact ⟨0, 0, rfl, Nat.zero_le _, rfl, ⟨rfl⟩⟩
    case round =>
      obtain ⟨k, m1, rfl, hk, rfl, M1⟩ := hrel
      by_cases hlt : k < l0.length
      · obtain ⟨ad, Ak, ck, e, hcell, _, _⟩ := rows_at_ HR0.out k hlt
        subst e
        have hfl := flat_step_ l0 k hlt
        have h1 := flat_le_ l0 (k + 1)
        have h2 : (l0.take (k + 1)).flatten.length = (l0.take k).flatten.length + (l0.getD k []).length := by rw [hfl, List.length_append]
        have hb := HL.out
        have hm1 := M1.out
        have h3 : (m1 : Int) + ((l0.getD k []).length : Int) ≤ 4398046511104 := by omega
        obtain ⟨m2, hm2⟩ : ∃ m, m = (l0.getD k []).length := ⟨_, rfl⟩
        have E2' : Aside0 (m1 + m2 = (l0.take (k + 1)).flatten.length) := ⟨by rw [hm1, hm2]; exact h2.symm⟩
        rw [← hm2] at h3 hcell
        clear hfl h1 h2 hb hm1 hm2
        have h4 : 0 ≤ (m1 : Int) + (m2 : Int) := by omega
        go_wp2
        go_round
        case rel => exact ⟨k + 1, m1 + m2, by go_num, by omega, by go_num, E2'⟩
        case measure => simp [intOf]; omega
      · have hk' : k = l0.length := by omega
        have hm1 := M1.out
        rw [hk', List.take_length] at hm1
        have hb := HL.out
        have HG := Aside0.mk (growNil_ m1 (by omega) w)
        have h3 : (m1 : Int) ≤ 4398046511104 := by omega
        clear hb hm1 hk'
        go_wp2_with (go_at_call 140; refine HG.out.mono ?_; rintro e w1 ⟨v1, rfl, ho, hb⟩; have HO := Aside0.mk ho; have HB1 := Aside0.mk hb; clear ho hb)
        go_loopw [6, 27] (fun v i wr => ∃ k : Nat, i = .int .i64 (k : Int) ∧ k ≤ l0.length ∧ Aside0 (Kd.R k71 71 wr w.heap.size (fun _ => True) v (l0.take k).flatten) ∧ Aside0 (Below w.heap.size w wr)) (fun _ i _ => l0.length - (intOf i).toNat)
        case atStart => exact ⟨0, rfl, Nat.zero_le _, HO, HB1⟩
        case round =>
          clear HO HB1 HB
          obtain ⟨k, rfl, hk, HO, HB⟩ := hrel
          by_cases hlt : k < l0.length
          · obtain ⟨ad, Ak, ck, e, hcell0, hck, hC⟩ := rows_at_ HR0.out k hlt
            subst e
            have hcell := (HB.out.cell (World.block_lt_of_cell? w _ hcell0)).trans hcell0
            have HC := Aside0.mk hC
            have hfl := flat_step_ l0 k hlt
            have h1 := flat_le_ l0 (k + 1)
            have h2 : (l0.take (k + 1)).flatten.length = (l0.take k).flatten.length + (l0.getD k []).length := by rw [hfl, List.length_append]
            have LM : Aside0 ((l0.take k).flatten.length + (l0.getD k []).length < 4398046511104) := ⟨by have h_ := HL.out; omega⟩
            clear h2
            have EF := Aside0.mk hfl
            clear hfl h1 hcell0 hC
            obtain ⟨lk, hlk⟩ : ∃ x, x = l0.getD k [] := ⟨_, rfl⟩
            rw [← hlk] at hcell hck HC LM EF
            clear hlk
            go_wp2_with ((with_reducible refine gate_builtin (b := .append) (xs := #[.tmp 31, .tmp 32]) rfl ?_); at_builtin; refine Kd.R_append_rows k71 (w0 := w) w.heap.size rfl (.tmp 31) (.tmp 32) 36 71 (.agg #[(.int .i32 0), (.int .i64 0), (.string ⟨#[]⟩)]) 32 rfl Tryd.underlying36 info71 rfl (by decide) (by omega) u6 (l0.take k).flatten lk _ _ _ (fun _ => True) (fun _ => False) rfl rfl HO.out (Kd.C_below HC.out HB.out) (fun _ _ h => h) (fun _ h => h.elim) (fun _ _ => trivial) HB.out (below_size HB.out) ?aL ?_; (case aL => have h_ := LM.out; omega); intro v151 w5 ho hb hg hat; rw [← EF.out] at ho; have n0_ := Aside0.mk (hb); have n1_ := Aside0.mk (ho); clear HB HO; have HB := n0_; have HO := n1_; clear n0_ n1_; clear ho hb hg hat)
            go_roundw
            case rel => exact ⟨k + 1, by go_num, by omega, HO, HB⟩
            case measure => simp [intOf]; omega
          · have hk' : k = l0.length := by omega
            have HK := Aside0.mk (show l0.flatten = (l0.take k).flatten by rw [hk', List.take_length])
            clear hk'
            go_wp2
            go_ret
            exact ⟨_, rfl, by rw [HK.out]; exact HO.out, HB.out⟩
  · rw [if_neg hl] at h
    exact absurd h (by simp)

end Go.Proofs.YtgdpknmffohhaaaDoor.Pl

namespace Go.Proofs.YtgdpknmffohhaaaDoor.Pl
open Go.RowKit Go.Proofs.YtgdpknmffohhaaaDoorW.PrintWords Go.Proofs.YtgdpknmffohhaaaDoorW.PrintLast Go.Proofs.YtgdpknmffohhaaaDoorW.PrintMore
attribute [local go_sem] max2_int min2_int max_two min_two max_three min_three max_four min_four   -- for this text's walks alone
set_option linter.unusedVariables false
set_option linter.unusedSimpArgs false

/-! ### cells_Cut: function 98 (given) -/
def cells_Cut.f (l0 : List (S71)) (a1 : Int) (a2 : Int) : Option ((List (S71)) × Int) :=
  if spanned_ l0 a1 a2 then (if l0.length < 2199023255552 then some (l0.take a1.toNat ++ l0.drop a2.toNat, 0) else none) else some ([], 1)
set_option maxHeartbeats 4000000 in
theorem cells_Cut.calls (A0 : Option Addr) (c0 : Nat) (l0 : List (S71)) (a1 : Int) (a2 : Int) (r1 : List (S71)) (r2 : Int) (w : World) (hr0 : Kd.C k71 w A0 l0.length l0) (hc0 : l0.length ≤ c0) (h : cells_Cut.f l0 a1 a2 = some (r1, r2)) :
    Calls Tryd.prog 98 #[.slice A0 l0.length c0, .int .i64 a1, .int .i64 a2] w fun e w' => ∃ v0_ : Value, e = .returned (.tuple #[v0_, .int .i64 r2]) ∧ Kd.R k71 71 w' w.heap.size (fun _ => True) v0_ r1 ∧ Below w.heap.size w w' := by
  have HR0 := Aside0.mk hr0
  have HC0 := Aside0.mk hc0
  have HB := Aside0.mk (Below.refl w.heap.size w)
  unfold cells_Cut.f at h
  by_cases hs : spanned_ l0 a1 a2
  · rw [if_pos hs] at h
    by_cases hl : l0.length < 2199023255552
    · rw [if_pos hl] at h
      simp only [Option.some.injEq, Prod.mk.injEq] at h
      obtain ⟨rfl, rfl⟩ := h
      have A6 := Aside0.mk (span_yes_ hs)
      obtain ⟨h0, h1, h2⟩ := hs
      obtain ⟨p, rfl⟩ := Int.eq_ofNat_of_zero_le h0
      obtain ⟨q, rfl⟩ := Int.eq_ofNat_of_zero_le (show 0 ≤ a2 by omega)
      have q1 := takeC_ A0 l0 c0 p (by omega) hc0
      obtain ⟨A1, c1, q2, hc1, hC1⟩ := dropC_ A0 l0 c0 q (by omega) hc0
      have C1 := Aside0.mk (hC1 w hr0)
      have C0 := Aside0.mk (Kd.C_take hr0 (show p ≤ l0.length by omega))
      have L1 := Aside0.mk (show (l0.take p).length = p by rw [List.length_take]; omega)
      have L2 := Aside0.mk (show (l0.drop q).length = l0.length - q by rw [List.length_drop])
      have HC1 := Aside0.mk hc1
      have HF := Aside0.mk (show slices_Concat_Cell.f [l0.take p, l0.drop q] = some (l0.take p ++ l0.drop q) by
        unfold slices_Concat_Cell.f
        have e_ : [l0.take p, l0.drop q].flatten = l0.take p ++ l0.drop q := by simp
        rw [e_, if_pos (by rw [List.length_append, L1.out, L2.out]; omega)])
      rw [Int.toNat_natCast, Int.toNat_natCast]
      have hpc : p ≤ c0 := by omega
      have HPC := Aside0.mk hpc
      clear hr0 hc0 hl h0 h1 h2 hc1 hC1 hpc
      go_enter Tryd.func98, Tryd.ntmps98
      go_wp2_with (go_at_call 108; refine (cells_span.calls _ _ l0 (p : Int) (q : Int) true _ HR0.out HC0.out A6.out).mono ?_; rintro e w' ⟨rfl, ⟨nd, rfl⟩⟩)
      have hle2 : l0.length - q ≤ c1 := by have h_ := HC1.out; rw [L2.out] at h_; exact h_
      have HL2 := Aside0.mk hle2
      clear hle2
      go_region_with (go_at_call 127; refine (slices_Concat_Cell.calls _ _ [l0.take p, l0.drop q] (l0.take p ++ l0.drop q) _ (twoRows_ _ L1.out L2.out HPC.out HL2.out (by repeat (first | exact C0.out | (with_reducible refine Kd.C_alloc ?_ _) | (with_reducible refine Kd.C_drewN ?_ _) | (with_reducible refine Kd.C_drew ?_))) (by repeat (first | exact C1.out | (with_reducible refine Kd.C_alloc ?_ _) | (with_reducible refine Kd.C_drewN ?_ _) | (with_reducible refine Kd.C_drew ?_))) _) (Nat.le_refl _) HF.out).mono ?_; rintro e w1 ⟨v1, rfl, ho, hb⟩; have HO := Aside0.mk (Kd.R_lower ho (below_size (by repeat (first | (with_reducible first | exact HB.out | apply below_alloc | apply pw_below_drewN | apply below_drew1) | exact HB.out)))); have HB1 := Aside0.mk (below_step (by repeat (first | (with_reducible first | exact HB.out | apply below_alloc | apply pw_below_drewN | apply below_drew1) | exact HB.out)) hb); clear ho hb)
      all_goals (go_wp2; go_ret2; exact ⟨_, rfl, HO.out, HB1.out⟩)
    · rw [if_neg hl] at h
      exact absurd h (by simp)
  · rw [if_neg hs] at h
    simp only [Option.some.injEq, Prod.mk.injEq] at h
    obtain ⟨rfl, rfl⟩ := h
    have A6 := Aside0.mk (span_no_ hs)
    clear hr0 hc0 hs
    go_enter Tryd.func98, Tryd.ntmps98
    go_wp2_with (go_at_call 108; refine (cells_span.calls _ _ l0 a1 a2 false _ HR0.out HC0.out A6.out).mono ?_; rintro e w' ⟨rfl, ⟨nd, rfl⟩⟩)
    go_ret2
    exact ⟨_, rfl, Kd.R_nil _ _ _ _ _, pw_below_drewN (Below.refl _ _) _⟩

end Go.Proofs.YtgdpknmffohhaaaDoor.Pl

namespace Go.Proofs.YtgdpknmffohhaaaDoor.Pl
open Go.RowKit Go.Proofs.YtgdpknmffohhaaaDoorW.PrintWords Go.Proofs.YtgdpknmffohhaaaDoorW.PrintLast Go.Proofs.YtgdpknmffohhaaaDoorW.PrintMore
attribute [local go_sem] max2_int min2_int max_two min_two max_three min_three max_four min_four   -- for this text's walks alone
set_option linter.unusedVariables false
set_option linter.unusedSimpArgs false

/-! ### lib_sides -/
def sidesAt_ (a : Int) (n : Nat) : Int := mn (mx a 0) (n : Int)
theorem sidesAt_le (a : Int) (n : Nat) : 0 ≤ sidesAt_ a n ∧ sidesAt_ a n ≤ n := by unfold sidesAt_ mn mx; split <;> split <;> omega
theorem sidesAt_low {a : Int} (n : Nat) (h : a < 0) : sidesAt_ a n = 0 := by unfold sidesAt_ mn mx; split <;> split <;> omega
theorem sidesAt_mid {a : Int} {n : Nat} (h : 0 ≤ a) (h2 : a ≤ n) : sidesAt_ a n = a := by unfold sidesAt_ mn mx; split <;> split <;> omega
theorem sidesAt_high {a : Int} {n : Nat} (h : (n : Int) < a) : sidesAt_ a n = n := by unfold sidesAt_ mn mx; split <;> (try split) <;> omega
set_option maxHeartbeats 1000000 in
theorem cells_sides.calls (A0 : Option Addr) (c0 : Nat) (l0 : List (S71)) (a1 : Int) (w : World) (hr0 : Kd.C k71 w A0 l0.length l0) (hc0 : l0.length ≤ c0) :
    Calls Tryd.prog 128 #[.slice A0 l0.length c0, .int .i64 a1] w fun e w' => e = .returned (.tuple #[.int .i64 (sidesAt_ a1 l0.length), .pointer (if 0 < sidesAt_ a1 l0.length then A0.map (·.add ((sidesAt_ a1 l0.length - 1).toNat * 3)) else none), .pointer (if sidesAt_ a1 l0.length < (l0.length : Int) then A0.map (·.add ((sidesAt_ a1 l0.length).toNat * 3)) else none)]) ∧ w = w' := by
  have hlen : l0.length ≤ 9223372036854775807 := hr0.2.1
  have hA : 0 < l0.length → ∃ ad, A0 = some ad := fun h => by obtain ⟨ad, h, _⟩ := hr0.2.2 h; exact ⟨ad, h⟩
  clear hr0
  obtain ⟨n, hn⟩ : ∃ n, n = l0.length := ⟨_, rfl⟩
  rw [← hn] at hc0 hlen hA ⊢
  clear hn
  have hmem : n = 0 ∨ ∃ ad, A0 = some ad := by rcases Nat.eq_zero_or_pos n with h | h; exact .inl h; exact .inr (hA (by omega))
  clear hA
  by_cases h1 : a1 < 0
  · rw [sidesAt_low n h1]
    rcases hmem with rfl | ⟨ad, rfl⟩
    · go_enter Tryd.func128, Tryd.ntmps128
      go_wp2
      go_ret3
      exact ⟨rfl, rfl⟩
    · by_cases hz : (0 : Int) < (n : Int)
      · go_enter Tryd.func128, Tryd.ntmps128
        go_wp2
        go_ret3
        exact ⟨rfl, rfl⟩
      · go_enter Tryd.func128, Tryd.ntmps128
        go_wp2
        go_ret3
        exact ⟨rfl, rfl⟩
  · by_cases h2 : (n : Int) < a1
    · rw [sidesAt_high h2]
      rcases hmem with rfl | ⟨ad, rfl⟩
      · go_enter Tryd.func128, Tryd.ntmps128
        go_wp2
        go_ret3
        exact ⟨rfl, rfl⟩
      · by_cases hz : (0 : Int) < (n : Int)
        · go_enter Tryd.func128, Tryd.ntmps128
          go_wp2
          go_ret3
          exact ⟨rfl, rfl⟩
        · go_enter Tryd.func128, Tryd.ntmps128
          go_wp2
          go_ret3
          exact ⟨rfl, rfl⟩
    · rw [sidesAt_mid (by omega) (by omega)]
      have h3 : 0 ≤ a1 := by omega
      have h4 : a1 ≤ n := by omega
      rcases hmem with rfl | ⟨ad, rfl⟩
      · obtain rfl : a1 = 0 := by omega
        go_enter Tryd.func128, Tryd.ntmps128
        go_wp2
        go_ret3
        exact ⟨rfl, rfl⟩
      · by_cases hz : (0 : Int) < a1
        · by_cases hy : a1 < (n : Int)
          · go_enter Tryd.func128, Tryd.ntmps128
            go_wp2
            go_ret3
            exact ⟨rfl, rfl⟩
          · go_enter Tryd.func128, Tryd.ntmps128
            go_wp2
            go_ret3
            exact ⟨rfl, rfl⟩
        · by_cases hy : a1 < (n : Int)
          · go_enter Tryd.func128, Tryd.ntmps128
            go_wp2
            go_ret3
            exact ⟨rfl, rfl⟩
          · go_enter Tryd.func128, Tryd.ntmps128
            go_wp2
            go_ret3
            exact ⟨rfl, rfl⟩

end Go.Proofs.YtgdpknmffohhaaaDoor.Pl

namespace Go.Proofs.YtgdpknmffohhaaaDoor.Pl
open Go.RowKit Go.Proofs.YtgdpknmffohhaaaDoorW.PrintWords Go.Proofs.YtgdpknmffohhaaaDoorW.PrintLast Go.Proofs.YtgdpknmffohhaaaDoorW.PrintMore
attribute [local go_sem] max2_int min2_int max_two min_two max_three min_three max_four min_four   -- for this text's walks alone
set_option linter.unusedVariables false
set_option linter.unusedSimpArgs false

/-! ### cells_Within: function 99 (given) -/
def back_ (h : ByteArray) (l : List S71) : Nat → Nat
  | 0 => 0
  | n + 1 => if (rd_T71 l (n : Int)).f2.toList = h.toList then back_ h l n else n + 1
def forth_ (h : ByteArray) (l : List S71) : Nat → Nat → Nat
  | 0, i => i
  | k + 1, i => if (rd_T71 l (i : Int)).f2.toList = h.toList then forth_ h l k (i + 1) else i
theorem forth_step_ {h : ByteArray} {l : List S71} {i : Nat} (hi : i < l.length) (e : (rd_T71 l (i : Int)).f2.toList = h.toList) : forth_ h l (l.length - (i + 1)) (i + 1) = forth_ h l (l.length - i) i := by
  obtain ⟨k, hk⟩ : ∃ k, l.length - i = k + 1 := ⟨l.length - i - 1, by omega⟩
  rw [hk, show l.length - (i + 1) = k by omega]
  simp only [forth_]
  rw [if_pos e]
theorem forth_stop_ {h : ByteArray} {l : List S71} {i : Nat} (e : i < l.length → ¬ (rd_T71 l (i : Int)).f2.toList = h.toList) : forth_ h l (l.length - i) i = i := by
  rcases hk : l.length - i with _ | k
  · rfl
  · simp only [forth_]
    rw [if_neg (e (by omega))]
def href_ (l : List S71) (p : Nat) : ByteArray :=
  if 0 < p then (if (rd_T71 l ((p - 1 : Nat) : Int)).f2.toList = [] then (if p < l.length then (rd_T71 l (p : Int)).f2 else ⟨#[]⟩) else (rd_T71 l ((p - 1 : Nat) : Int)).f2) else (if p < l.length then (rd_T71 l (p : Int)).f2 else ⟨#[]⟩)
def within_ (l : List S71) (p : Nat) (s : ByteArray) : Int × Int := if s.toList = [] then ((p : Int), (p : Int)) else (((back_ s l p : Nat) : Int), ((forth_ s l (l.length - p) p : Nat) : Int))
def cells_Within.f (l0 : List (S71)) (a1 : Int) : Option (Int × Int) := some (within_ l0 (sidesAt_ a1 l0.length).toNat (href_ l0 (sidesAt_ a1 l0.length).toNat))
set_option maxHeartbeats 8000000 in
theorem cells_Within.calls (A0 : Option Addr) (c0 : Nat) (l0 : List (S71)) (a1 : Int) (r1 : Int) (r2 : Int) (w : World) (hr0 : Kd.C k71 w A0 l0.length l0) (hc0 : l0.length ≤ c0) (h : cells_Within.f l0 a1 = some (r1, r2)) :
    Calls Tryd.prog 99 #[.slice A0 l0.length c0, .int .i64 a1] w fun e w' => e = .returned (.tuple #[.int .i64 r1, .int .i64 r2]) ∧ Below w.heap.size w w' := by
  have HS := Aside0.mk (cells_sides.calls A0 c0 l0 a1 w hr0 hc0)
  have hlen : l0.length ≤ 9223372036854775807 := hr0.2.1
  have hp := sidesAt_le a1 l0.length
  unfold cells_Within.f at h
  obtain ⟨p, hpe⟩ : ∃ p, sidesAt_ a1 l0.length = p := ⟨_, rfl⟩
  rw [hpe] at hp h HS
  clear hpe
  obtain ⟨hp0, hp1⟩ := hp
  obtain ⟨q, rfl⟩ := Int.eq_ofNat_of_zero_le hp0
  rw [Int.toNat_natCast] at h
  have hq : q ≤ l0.length := by omega
  clear hp0 hp1
  have f1_ : ∀ j : Nat, j < l0.length → ∃ ad : Addr, A0 = some ad ∧ w.cell? ⟨(ad.add (j * 3)).block, (ad.add (j * 3)).off + 2, none⟩ = some (.string (rd_T71 l0 (j : Int)).f2) := by
    intro j h1
    obtain ⟨ad, e, g⟩ := at_T71 hr0 (j : Int) (by omega) (by omega)
    exact ⟨_, e, g.2.2⟩
  clear hr0
  have F1 := Aside0.mk f1_
  clear f1_
  obtain ⟨s, hs⟩ : ∃ s, href_ l0 q = s := ⟨_, rfl⟩
  rw [hs] at h
  have H := Aside0.mk h
  have HS' := Aside0.mk hs
  clear h hs
  by_cases c1 : 0 < q
  · by_cases c2 : q < l0.length
    · obtain ⟨ad, ea, ka⟩ := F1.out (q - 1) (by omega)
      cases ea
      obtain ⟨sa, hsa⟩ : ∃ z, (rd_T71 l0 ((q - 1 : Nat) : Int)).f2 = z := ⟨_, rfl⟩
      rw [hsa] at ka
      obtain ⟨ad, ea, kb⟩ := F1.out q c2
      cases ea
      obtain ⟨sb, hsb⟩ : ∃ z, (rd_T71 l0 (q : Int)).f2 = z := ⟨_, rfl⟩
      rw [hsb] at kb
      rw [if_pos (show (0:Int) < (q:Int) by omega), if_pos (show (q:Int) < (l0.length:Int) by omega), Option.map_some] at HS
      by_cases e0_ : sa.toList = []
      · have hh_ := HS'.out
        unfold href_ at hh_
        rw [if_pos c1, hsa, if_pos e0_, if_pos c2, hsb] at hh_
        subst hh_
        clear HS' hsb hsa
        have e_ := e0_
        have u1_ : (!sa.toList.isEmpty) = false := by rw [e_]; rfl
        have u2_ : sa.toList.isEmpty = true := by rw [e_]; rfl
        clear e_ e0_
        by_cases e_ : sb.toList = []
        · have t1_ : (!sb.toList.isEmpty) = false := by rw [e_]; rfl
          have t2_ : sb.toList.isEmpty = true := by rw [e_]; rfl
          have EQ := Aside0.mk e_
          clear e_
          have H2 : ((q : Int), (q : Int)) = (r1, r2) := by have h_ := H.out; unfold within_ at h_; rw [if_pos EQ.out] at h_; exact Option.some.inj h_
          clear H
          cases H2
          go_enter Tryd.func99, Tryd.ntmps99
          go_wp2_with ((go_at_call 128; refine HS.out.mono ?_; rintro e w' ⟨rfl, rfl⟩))
          go_ret2
          exact ⟨rfl, Below.refl _ _⟩
        · have t1_ : (!sb.toList.isEmpty) = true := by cases h_ : sb.toList with | nil => exact absurd h_ e_ | cons _ _ => rfl
          have t2_ : sb.toList.isEmpty = false := by cases h_ : sb.toList with | nil => exact absurd h_ e_ | cons _ _ => rfl
          have NE := Aside0.mk e_
          clear e_
          have HR1 : Aside0 (r1 = ((back_ sb l0 q : Nat) : Int)) := by have h_ := H.out; unfold within_ at h_; rw [if_neg NE.out] at h_; simp only [Option.some.injEq, Prod.mk.injEq] at h_; exact ⟨h_.1.symm⟩
          have HR2 : Aside0 (r2 = ((forth_ sb l0 (l0.length - q) q : Nat) : Int)) := by have h_ := H.out; unfold within_ at h_; rw [if_neg NE.out] at h_; simp only [Option.some.injEq, Prod.mk.injEq] at h_; exact ⟨h_.2.symm⟩
          clear H
          go_enter Tryd.func99, Tryd.ntmps99
          go_wp2_with ((go_at_call 128; refine HS.out.mono ?_; rintro e w' ⟨rfl, rfl⟩))
          go_loop [4] (fun v => ∃ x : Nat, v = .int .i64 (x : Int) ∧ x ≤ q ∧ Aside0 (back_ sb l0 x = back_ sb l0 q)) (fun v => (intOf v).toNat)
          case atStart => exact ⟨q, rfl, Nat.le_refl _, ⟨rfl⟩⟩
          case round =>
            obtain ⟨x, rfl, hx, HX⟩ := hrel
            cases x with
            | zero =>
              have bx : Aside0 (back_ sb l0 0 = 0) := ⟨rfl⟩
              go_wp2
              go_loop [5] (fun v => ∃ y : Nat, v = .int .i64 (y : Int) ∧ y ≤ l0.length ∧ Aside0 (forth_ sb l0 (l0.length - y) y = forth_ sb l0 (l0.length - q) q)) (fun v => l0.length - (intOf v).toNat)
              case atStart => exact ⟨q, rfl, by omega, ⟨rfl⟩⟩
              case round =>
                obtain ⟨y, rfl, hy, HY⟩ := hrel
                by_cases c5 : y < l0.length
                · obtain ⟨ad, ea, ky⟩ := F1.out y c5
                  cases ea
                  by_cases c6 : (rd_T71 l0 (y : Int)).f2.toList = sb.toList
                  · have st := Aside0.mk (forth_step_ c5 c6)
                    obtain ⟨sy, hsy⟩ : ∃ z, (rd_T71 l0 (y : Int)).f2 = z := ⟨_, rfl⟩
                    rw [hsy] at ky c6
                    have c6' : (sy.toList == sb.toList) = true := beq_iff_eq.mpr c6
                    clear c6 hsy
                    go_wp2
                    go_round
                    case rel => exact ⟨y + 1, by go_num, by omega, ⟨st.out.trans HY.out⟩⟩
                    case measure => simp [intOf] <;> omega
                  · have st := Aside0.mk (forth_stop_ (fun _ => c6))
                    obtain ⟨sy, hsy⟩ : ∃ z, (rd_T71 l0 (y : Int)).f2 = z := ⟨_, rfl⟩
                    rw [hsy] at ky c6
                    have c6' : (sy.toList == sb.toList) = false := beq_eq_false_iff_ne.mpr c6
                    clear c6 hsy
                    go_wp2
                    go_ret2
                    exact ⟨by rw [HR1.out, HR2.out, ← HX.out, bx.out, ← HY.out, st.out]; rfl, Below.refl _ _⟩
                · have st := Aside0.mk (forth_stop_ (h := sb) (l := l0) (i := y) (fun h_ => absurd h_ c5))
                  go_wp2
                  go_ret2
                  exact ⟨by rw [HR1.out, HR2.out, ← HX.out, bx.out, ← HY.out, st.out]; rfl, Below.refl _ _⟩
            | succ x =>
              obtain ⟨ad, ea, kx⟩ := F1.out x (by omega)
              cases ea
              by_cases c4 : (rd_T71 l0 (x : Int)).f2.toList = sb.toList
              · have bx : Aside0 (back_ sb l0 (x + 1) = back_ sb l0 x) := ⟨by simp only [back_]; rw [if_pos c4]⟩
                obtain ⟨sx, hsx⟩ : ∃ z, (rd_T71 l0 (x : Int)).f2 = z := ⟨_, rfl⟩
                rw [hsx] at kx c4
                have c4' : (sx.toList == sb.toList) = true := beq_iff_eq.mpr c4
                clear c4 hsx
                go_wp2
                go_round
                case rel => exact ⟨x, by go_num, by omega, ⟨bx.out.symm.trans HX.out⟩⟩
                case measure => simp [intOf] <;> omega
              · have bx : Aside0 (back_ sb l0 (x + 1) = x + 1) := ⟨by simp only [back_]; rw [if_neg c4]⟩
                obtain ⟨sx, hsx⟩ : ∃ z, (rd_T71 l0 (x : Int)).f2 = z := ⟨_, rfl⟩
                rw [hsx] at kx c4
                have c4' : (sx.toList == sb.toList) = false := beq_eq_false_iff_ne.mpr c4
                clear c4 hsx
                go_wp2
                go_loop [5] (fun v => ∃ y : Nat, v = .int .i64 (y : Int) ∧ y ≤ l0.length ∧ Aside0 (forth_ sb l0 (l0.length - y) y = forth_ sb l0 (l0.length - q) q)) (fun v => l0.length - (intOf v).toNat)
                case atStart => exact ⟨q, rfl, by omega, ⟨rfl⟩⟩
                case round =>
                  obtain ⟨y, rfl, hy, HY⟩ := hrel
                  by_cases c5 : y < l0.length
                  · obtain ⟨ad, ea, ky⟩ := F1.out y c5
                    cases ea
                    by_cases c6 : (rd_T71 l0 (y : Int)).f2.toList = sb.toList
                    · have st := Aside0.mk (forth_step_ c5 c6)
                      obtain ⟨sy, hsy⟩ : ∃ z, (rd_T71 l0 (y : Int)).f2 = z := ⟨_, rfl⟩
                      rw [hsy] at ky c6
                      have c6' : (sy.toList == sb.toList) = true := beq_iff_eq.mpr c6
                      clear c6 hsy
                      go_wp2
                      go_round
                      case rel => exact ⟨y + 1, by go_num, by omega, ⟨st.out.trans HY.out⟩⟩
                      case measure => simp [intOf] <;> omega
                    · have st := Aside0.mk (forth_stop_ (fun _ => c6))
                      obtain ⟨sy, hsy⟩ : ∃ z, (rd_T71 l0 (y : Int)).f2 = z := ⟨_, rfl⟩
                      rw [hsy] at ky c6
                      have c6' : (sy.toList == sb.toList) = false := beq_eq_false_iff_ne.mpr c6
                      clear c6 hsy
                      go_wp2
                      go_ret2
                      exact ⟨by rw [HR1.out, HR2.out, ← HX.out, bx.out, ← HY.out, st.out]; rfl, Below.refl _ _⟩
                  · have st := Aside0.mk (forth_stop_ (h := sb) (l := l0) (i := y) (fun h_ => absurd h_ c5))
                    go_wp2
                    go_ret2
                    exact ⟨by rw [HR1.out, HR2.out, ← HX.out, bx.out, ← HY.out, st.out]; rfl, Below.refl _ _⟩
      · have hh_ := HS'.out
        unfold href_ at hh_
        rw [if_pos c1, hsa, if_neg e0_] at hh_
        subst hh_
        clear HS' hsa
        have e_ := e0_
        have t1_ : (!sa.toList.isEmpty) = true := by cases h_ : sa.toList with | nil => exact absurd h_ e_ | cons _ _ => rfl
        have t2_ : sa.toList.isEmpty = false := by cases h_ : sa.toList with | nil => exact absurd h_ e_ | cons _ _ => rfl
        have NE := Aside0.mk e_
        clear e_ e0_
        have HR1 : Aside0 (r1 = ((back_ sa l0 q : Nat) : Int)) := by have h_ := H.out; unfold within_ at h_; rw [if_neg NE.out] at h_; simp only [Option.some.injEq, Prod.mk.injEq] at h_; exact ⟨h_.1.symm⟩
        have HR2 : Aside0 (r2 = ((forth_ sa l0 (l0.length - q) q : Nat) : Int)) := by have h_ := H.out; unfold within_ at h_; rw [if_neg NE.out] at h_; simp only [Option.some.injEq, Prod.mk.injEq] at h_; exact ⟨h_.2.symm⟩
        clear H
        go_enter Tryd.func99, Tryd.ntmps99
        go_wp2_with ((go_at_call 128; refine HS.out.mono ?_; rintro e w' ⟨rfl, rfl⟩))
        go_loop [4] (fun v => ∃ x : Nat, v = .int .i64 (x : Int) ∧ x ≤ q ∧ Aside0 (back_ sa l0 x = back_ sa l0 q)) (fun v => (intOf v).toNat)
        case atStart => exact ⟨q, rfl, Nat.le_refl _, ⟨rfl⟩⟩
        case round =>
          obtain ⟨x, rfl, hx, HX⟩ := hrel
          cases x with
          | zero =>
            have bx : Aside0 (back_ sa l0 0 = 0) := ⟨rfl⟩
            go_wp2
            go_loop [5] (fun v => ∃ y : Nat, v = .int .i64 (y : Int) ∧ y ≤ l0.length ∧ Aside0 (forth_ sa l0 (l0.length - y) y = forth_ sa l0 (l0.length - q) q)) (fun v => l0.length - (intOf v).toNat)
            case atStart => exact ⟨q, rfl, by omega, ⟨rfl⟩⟩
            case round =>
              obtain ⟨y, rfl, hy, HY⟩ := hrel
              by_cases c5 : y < l0.length
              · obtain ⟨ad, ea, ky⟩ := F1.out y c5
                cases ea
                by_cases c6 : (rd_T71 l0 (y : Int)).f2.toList = sa.toList
                · have st := Aside0.mk (forth_step_ c5 c6)
                  obtain ⟨sy, hsy⟩ : ∃ z, (rd_T71 l0 (y : Int)).f2 = z := ⟨_, rfl⟩
                  rw [hsy] at ky c6
                  have c6' : (sy.toList == sa.toList) = true := beq_iff_eq.mpr c6
                  clear c6 hsy
                  go_wp2
                  go_round
                  case rel => exact ⟨y + 1, by go_num, by omega, ⟨st.out.trans HY.out⟩⟩
                  case measure => simp [intOf] <;> omega
                · have st := Aside0.mk (forth_stop_ (fun _ => c6))
                  obtain ⟨sy, hsy⟩ : ∃ z, (rd_T71 l0 (y : Int)).f2 = z := ⟨_, rfl⟩
                  rw [hsy] at ky c6
                  have c6' : (sy.toList == sa.toList) = false := beq_eq_false_iff_ne.mpr c6
                  clear c6 hsy
                  go_wp2
                  go_ret2
                  exact ⟨by rw [HR1.out, HR2.out, ← HX.out, bx.out, ← HY.out, st.out]; rfl, Below.refl _ _⟩
              · have st := Aside0.mk (forth_stop_ (h := sa) (l := l0) (i := y) (fun h_ => absurd h_ c5))
                go_wp2
                go_ret2
                exact ⟨by rw [HR1.out, HR2.out, ← HX.out, bx.out, ← HY.out, st.out]; rfl, Below.refl _ _⟩
          | succ x =>
            obtain ⟨ad, ea, kx⟩ := F1.out x (by omega)
            cases ea
            by_cases c4 : (rd_T71 l0 (x : Int)).f2.toList = sa.toList
            · have bx : Aside0 (back_ sa l0 (x + 1) = back_ sa l0 x) := ⟨by simp only [back_]; rw [if_pos c4]⟩
              obtain ⟨sx, hsx⟩ : ∃ z, (rd_T71 l0 (x : Int)).f2 = z := ⟨_, rfl⟩
              rw [hsx] at kx c4
              have c4' : (sx.toList == sa.toList) = true := beq_iff_eq.mpr c4
              clear c4 hsx
              go_wp2
              go_round
              case rel => exact ⟨x, by go_num, by omega, ⟨bx.out.symm.trans HX.out⟩⟩
              case measure => simp [intOf] <;> omega
            · have bx : Aside0 (back_ sa l0 (x + 1) = x + 1) := ⟨by simp only [back_]; rw [if_neg c4]⟩
              obtain ⟨sx, hsx⟩ : ∃ z, (rd_T71 l0 (x : Int)).f2 = z := ⟨_, rfl⟩
              rw [hsx] at kx c4
              have c4' : (sx.toList == sa.toList) = false := beq_eq_false_iff_ne.mpr c4
              clear c4 hsx
              go_wp2
              go_loop [5] (fun v => ∃ y : Nat, v = .int .i64 (y : Int) ∧ y ≤ l0.length ∧ Aside0 (forth_ sa l0 (l0.length - y) y = forth_ sa l0 (l0.length - q) q)) (fun v => l0.length - (intOf v).toNat)
              case atStart => exact ⟨q, rfl, by omega, ⟨rfl⟩⟩
              case round =>
                obtain ⟨y, rfl, hy, HY⟩ := hrel
                by_cases c5 : y < l0.length
                · obtain ⟨ad, ea, ky⟩ := F1.out y c5
                  cases ea
                  by_cases c6 : (rd_T71 l0 (y : Int)).f2.toList = sa.toList
                  · have st := Aside0.mk (forth_step_ c5 c6)
                    obtain ⟨sy, hsy⟩ : ∃ z, (rd_T71 l0 (y : Int)).f2 = z := ⟨_, rfl⟩
                    rw [hsy] at ky c6
                    have c6' : (sy.toList == sa.toList) = true := beq_iff_eq.mpr c6
                    clear c6 hsy
                    go_wp2
                    go_round
                    case rel => exact ⟨y + 1, by go_num, by omega, ⟨st.out.trans HY.out⟩⟩
                    case measure => simp [intOf] <;> omega
                  · have st := Aside0.mk (forth_stop_ (fun _ => c6))
                    obtain ⟨sy, hsy⟩ : ∃ z, (rd_T71 l0 (y : Int)).f2 = z := ⟨_, rfl⟩
                    rw [hsy] at ky c6
                    have c6' : (sy.toList == sa.toList) = false := beq_eq_false_iff_ne.mpr c6
                    clear c6 hsy
                    go_wp2
                    go_ret2
                    exact ⟨by rw [HR1.out, HR2.out, ← HX.out, bx.out, ← HY.out, st.out]; rfl, Below.refl _ _⟩
                · have st := Aside0.mk (forth_stop_ (h := sa) (l := l0) (i := y) (fun h_ => absurd h_ c5))
                  go_wp2
                  go_ret2
                  exact ⟨by rw [HR1.out, HR2.out, ← HX.out, bx.out, ← HY.out, st.out]; rfl, Below.refl _ _⟩
    · obtain ⟨ad, ea, ka⟩ := F1.out (q - 1) (by omega)
      cases ea
      obtain ⟨sa, hsa⟩ : ∃ z, (rd_T71 l0 ((q - 1 : Nat) : Int)).f2 = z := ⟨_, rfl⟩
      rw [hsa] at ka
      rw [if_pos (show (0:Int) < (q:Int) by omega), if_neg (show ¬ (q:Int) < (l0.length:Int) by omega), Option.map_some] at HS
      by_cases e0_ : sa.toList = []
      · have hh_ := HS'.out
        unfold href_ at hh_
        rw [if_pos c1, hsa, if_pos e0_, if_neg c2] at hh_
        subst hh_
        clear HS' hsa
        have e_ := e0_
        have t1_ : (!sa.toList.isEmpty) = false := by rw [e_]; rfl
        have t2_ : sa.toList.isEmpty = true := by rw [e_]; rfl
        clear e_ e0_
        have EQ : Aside0 ((⟨#[]⟩ : ByteArray).toList = []) := ⟨by kernel_rfl⟩
        have H2 : ((q : Int), (q : Int)) = (r1, r2) := by have h_ := H.out; unfold within_ at h_; rw [if_pos EQ.out] at h_; exact Option.some.inj h_
        clear H
        cases H2
        go_enter Tryd.func99, Tryd.ntmps99
        go_wp2_with ((go_at_call 128; refine HS.out.mono ?_; rintro e w' ⟨rfl, rfl⟩))
        go_ret2
        exact ⟨rfl, Below.refl _ _⟩
      · have hh_ := HS'.out
        unfold href_ at hh_
        rw [if_pos c1, hsa, if_neg e0_] at hh_
        subst hh_
        clear HS' hsa
        have e_ := e0_
        have t1_ : (!sa.toList.isEmpty) = true := by cases h_ : sa.toList with | nil => exact absurd h_ e_ | cons _ _ => rfl
        have t2_ : sa.toList.isEmpty = false := by cases h_ : sa.toList with | nil => exact absurd h_ e_ | cons _ _ => rfl
        have NE := Aside0.mk e_
        clear e_ e0_
        have HR1 : Aside0 (r1 = ((back_ sa l0 q : Nat) : Int)) := by have h_ := H.out; unfold within_ at h_; rw [if_neg NE.out] at h_; simp only [Option.some.injEq, Prod.mk.injEq] at h_; exact ⟨h_.1.symm⟩
        have HR2 : Aside0 (r2 = ((forth_ sa l0 (l0.length - q) q : Nat) : Int)) := by have h_ := H.out; unfold within_ at h_; rw [if_neg NE.out] at h_; simp only [Option.some.injEq, Prod.mk.injEq] at h_; exact ⟨h_.2.symm⟩
        clear H
        go_enter Tryd.func99, Tryd.ntmps99
        go_wp2_with ((go_at_call 128; refine HS.out.mono ?_; rintro e w' ⟨rfl, rfl⟩))
        go_loop [4] (fun v => ∃ x : Nat, v = .int .i64 (x : Int) ∧ x ≤ q ∧ Aside0 (back_ sa l0 x = back_ sa l0 q)) (fun v => (intOf v).toNat)
        case atStart => exact ⟨q, rfl, Nat.le_refl _, ⟨rfl⟩⟩
        case round =>
          obtain ⟨x, rfl, hx, HX⟩ := hrel
          cases x with
          | zero =>
            have bx : Aside0 (back_ sa l0 0 = 0) := ⟨rfl⟩
            go_wp2
            go_loop [5] (fun v => ∃ y : Nat, v = .int .i64 (y : Int) ∧ y ≤ l0.length ∧ Aside0 (forth_ sa l0 (l0.length - y) y = forth_ sa l0 (l0.length - q) q)) (fun v => l0.length - (intOf v).toNat)
            case atStart => exact ⟨q, rfl, by omega, ⟨rfl⟩⟩
            case round =>
              obtain ⟨y, rfl, hy, HY⟩ := hrel
              by_cases c5 : y < l0.length
              · obtain ⟨ad, ea, ky⟩ := F1.out y c5
                cases ea
                by_cases c6 : (rd_T71 l0 (y : Int)).f2.toList = sa.toList
                · have st := Aside0.mk (forth_step_ c5 c6)
                  obtain ⟨sy, hsy⟩ : ∃ z, (rd_T71 l0 (y : Int)).f2 = z := ⟨_, rfl⟩
                  rw [hsy] at ky c6
                  have c6' : (sy.toList == sa.toList) = true := beq_iff_eq.mpr c6
                  clear c6 hsy
                  go_wp2
                  go_round
                  case rel => exact ⟨y + 1, by go_num, by omega, ⟨st.out.trans HY.out⟩⟩
                  case measure => simp [intOf] <;> omega
                · have st := Aside0.mk (forth_stop_ (fun _ => c6))
                  obtain ⟨sy, hsy⟩ : ∃ z, (rd_T71 l0 (y : Int)).f2 = z := ⟨_, rfl⟩
                  rw [hsy] at ky c6
                  have c6' : (sy.toList == sa.toList) = false := beq_eq_false_iff_ne.mpr c6
                  clear c6 hsy
                  go_wp2
                  go_ret2
                  exact ⟨by rw [HR1.out, HR2.out, ← HX.out, bx.out, ← HY.out, st.out]; rfl, Below.refl _ _⟩
              · have st := Aside0.mk (forth_stop_ (h := sa) (l := l0) (i := y) (fun h_ => absurd h_ c5))
                go_wp2
                go_ret2
                exact ⟨by rw [HR1.out, HR2.out, ← HX.out, bx.out, ← HY.out, st.out]; rfl, Below.refl _ _⟩
          | succ x =>
            obtain ⟨ad, ea, kx⟩ := F1.out x (by omega)
            cases ea
            by_cases c4 : (rd_T71 l0 (x : Int)).f2.toList = sa.toList
            · have bx : Aside0 (back_ sa l0 (x + 1) = back_ sa l0 x) := ⟨by simp only [back_]; rw [if_pos c4]⟩
              obtain ⟨sx, hsx⟩ : ∃ z, (rd_T71 l0 (x : Int)).f2 = z := ⟨_, rfl⟩
              rw [hsx] at kx c4
              have c4' : (sx.toList == sa.toList) = true := beq_iff_eq.mpr c4
              clear c4 hsx
              go_wp2
              go_round
              case rel => exact ⟨x, by go_num, by omega, ⟨bx.out.symm.trans HX.out⟩⟩
              case measure => simp [intOf] <;> omega
            · have bx : Aside0 (back_ sa l0 (x + 1) = x + 1) := ⟨by simp only [back_]; rw [if_neg c4]⟩
              obtain ⟨sx, hsx⟩ : ∃ z, (rd_T71 l0 (x : Int)).f2 = z := ⟨_, rfl⟩
              rw [hsx] at kx c4
              have c4' : (sx.toList == sa.toList) = false := beq_eq_false_iff_ne.mpr c4
              clear c4 hsx
              go_wp2
              go_loop [5] (fun v => ∃ y : Nat, v = .int .i64 (y : Int) ∧ y ≤ l0.length ∧ Aside0 (forth_ sa l0 (l0.length - y) y = forth_ sa l0 (l0.length - q) q)) (fun v => l0.length - (intOf v).toNat)
              case atStart => exact ⟨q, rfl, by omega, ⟨rfl⟩⟩
              case round =>
                obtain ⟨y, rfl, hy, HY⟩ := hrel
                by_cases c5 : y < l0.length
                · obtain ⟨ad, ea, ky⟩ := F1.out y c5
                  cases ea
                  by_cases c6 : (rd_T71 l0 (y : Int)).f2.toList = sa.toList
                  · have st := Aside0.mk (forth_step_ c5 c6)
                    obtain ⟨sy, hsy⟩ : ∃ z, (rd_T71 l0 (y : Int)).f2 = z := ⟨_, rfl⟩
                    rw [hsy] at ky c6
                    have c6' : (sy.toList == sa.toList) = true := beq_iff_eq.mpr c6
                    clear c6 hsy
                    go_wp2
                    go_round
                    case rel => exact ⟨y + 1, by go_num, by omega, ⟨st.out.trans HY.out⟩⟩
                    case measure => simp [intOf] <;> omega
                  · have st := Aside0.mk (forth_stop_ (fun _ => c6))
                    obtain ⟨sy, hsy⟩ : ∃ z, (rd_T71 l0 (y : Int)).f2 = z := ⟨_, rfl⟩
                    rw [hsy] at ky c6
                    have c6' : (sy.toList == sa.toList) = false := beq_eq_false_iff_ne.mpr c6
                    clear c6 hsy
                    go_wp2
                    go_ret2
                    exact ⟨by rw [HR1.out, HR2.out, ← HX.out, bx.out, ← HY.out, st.out]; rfl, Below.refl _ _⟩
                · have st := Aside0.mk (forth_stop_ (h := sa) (l := l0) (i := y) (fun h_ => absurd h_ c5))
                  go_wp2
                  go_ret2
                  exact ⟨by rw [HR1.out, HR2.out, ← HX.out, bx.out, ← HY.out, st.out]; rfl, Below.refl _ _⟩
  · by_cases c2 : q < l0.length
    · obtain ⟨ad, ea, kb⟩ := F1.out q c2
      cases ea
      obtain ⟨sb, hsb⟩ : ∃ z, (rd_T71 l0 (q : Int)).f2 = z := ⟨_, rfl⟩
      rw [hsb] at kb
      rw [if_neg (show ¬ (0:Int) < (q:Int) by omega), if_pos (show (q:Int) < (l0.length:Int) by omega), Option.map_some] at HS
      have hh_ := HS'.out
      unfold href_ at hh_
      rw [if_neg c1, if_pos c2, hsb] at hh_
      subst hh_
      clear HS' hsb
      by_cases e_ : sb.toList = []
      · have t1_ : (!sb.toList.isEmpty) = false := by rw [e_]; rfl
        have t2_ : sb.toList.isEmpty = true := by rw [e_]; rfl
        have EQ := Aside0.mk e_
        clear e_
        have H2 : ((q : Int), (q : Int)) = (r1, r2) := by have h_ := H.out; unfold within_ at h_; rw [if_pos EQ.out] at h_; exact Option.some.inj h_
        clear H
        cases H2
        go_enter Tryd.func99, Tryd.ntmps99
        go_wp2_with ((go_at_call 128; refine HS.out.mono ?_; rintro e w' ⟨rfl, rfl⟩))
        go_ret2
        exact ⟨rfl, Below.refl _ _⟩
      · have t1_ : (!sb.toList.isEmpty) = true := by cases h_ : sb.toList with | nil => exact absurd h_ e_ | cons _ _ => rfl
        have t2_ : sb.toList.isEmpty = false := by cases h_ : sb.toList with | nil => exact absurd h_ e_ | cons _ _ => rfl
        have NE := Aside0.mk e_
        clear e_
        have HR1 : Aside0 (r1 = ((back_ sb l0 q : Nat) : Int)) := by have h_ := H.out; unfold within_ at h_; rw [if_neg NE.out] at h_; simp only [Option.some.injEq, Prod.mk.injEq] at h_; exact ⟨h_.1.symm⟩
        have HR2 : Aside0 (r2 = ((forth_ sb l0 (l0.length - q) q : Nat) : Int)) := by have h_ := H.out; unfold within_ at h_; rw [if_neg NE.out] at h_; simp only [Option.some.injEq, Prod.mk.injEq] at h_; exact ⟨h_.2.symm⟩
        clear H
        go_enter Tryd.func99, Tryd.ntmps99
        go_wp2_with ((go_at_call 128; refine HS.out.mono ?_; rintro e w' ⟨rfl, rfl⟩))
        go_loop [4] (fun v => ∃ x : Nat, v = .int .i64 (x : Int) ∧ x ≤ q ∧ Aside0 (back_ sb l0 x = back_ sb l0 q)) (fun v => (intOf v).toNat)
        case atStart => exact ⟨q, rfl, Nat.le_refl _, ⟨rfl⟩⟩
        case round =>
          obtain ⟨x, rfl, hx, HX⟩ := hrel
          cases x with
          | zero =>
            have bx : Aside0 (back_ sb l0 0 = 0) := ⟨rfl⟩
            go_wp2
            go_loop [5] (fun v => ∃ y : Nat, v = .int .i64 (y : Int) ∧ y ≤ l0.length ∧ Aside0 (forth_ sb l0 (l0.length - y) y = forth_ sb l0 (l0.length - q) q)) (fun v => l0.length - (intOf v).toNat)
            case atStart => exact ⟨q, rfl, by omega, ⟨rfl⟩⟩
            case round =>
              obtain ⟨y, rfl, hy, HY⟩ := hrel
              by_cases c5 : y < l0.length
              · obtain ⟨ad, ea, ky⟩ := F1.out y c5
                cases ea
                by_cases c6 : (rd_T71 l0 (y : Int)).f2.toList = sb.toList
                · have st := Aside0.mk (forth_step_ c5 c6)
                  obtain ⟨sy, hsy⟩ : ∃ z, (rd_T71 l0 (y : Int)).f2 = z := ⟨_, rfl⟩
                  rw [hsy] at ky c6
                  have c6' : (sy.toList == sb.toList) = true := beq_iff_eq.mpr c6
                  clear c6 hsy
                  go_wp2
                  go_round
                  case rel => exact ⟨y + 1, by go_num, by omega, ⟨st.out.trans HY.out⟩⟩
                  case measure => simp [intOf] <;> omega
                · have st := Aside0.mk (forth_stop_ (fun _ => c6))
                  obtain ⟨sy, hsy⟩ : ∃ z, (rd_T71 l0 (y : Int)).f2 = z := ⟨_, rfl⟩
                  rw [hsy] at ky c6
                  have c6' : (sy.toList == sb.toList) = false := beq_eq_false_iff_ne.mpr c6
                  clear c6 hsy
                  go_wp2
                  go_ret2
                  exact ⟨by rw [HR1.out, HR2.out, ← HX.out, bx.out, ← HY.out, st.out]; rfl, Below.refl _ _⟩
              · have st := Aside0.mk (forth_stop_ (h := sb) (l := l0) (i := y) (fun h_ => absurd h_ c5))
                go_wp2
                go_ret2
                exact ⟨by rw [HR1.out, HR2.out, ← HX.out, bx.out, ← HY.out, st.out]; rfl, Below.refl _ _⟩
          | succ x =>
            omega
    · rw [if_neg (show ¬ (0:Int) < (q:Int) by omega), if_neg (show ¬ (q:Int) < (l0.length:Int) by omega)] at HS
      have hh_ := HS'.out
      unfold href_ at hh_
      rw [if_neg c1, if_neg c2] at hh_
      subst hh_
      clear HS'
      have EQ : Aside0 ((⟨#[]⟩ : ByteArray).toList = []) := ⟨by kernel_rfl⟩
      have H2 : ((q : Int), (q : Int)) = (r1, r2) := by have h_ := H.out; unfold within_ at h_; rw [if_pos EQ.out] at h_; exact Option.some.inj h_
      clear H
      cases H2
      go_enter Tryd.func99, Tryd.ntmps99
      go_wp2_with ((go_at_call 128; refine HS.out.mono ?_; rintro e w' ⟨rfl, rfl⟩))
      go_ret2
      exact ⟨rfl, Below.refl _ _⟩

end Go.Proofs.YtgdpknmffohhaaaDoor.Pl

namespace Go.Proofs.YtgdpknmffohhaaaDoor.Pl
open Go.RowKit Go.Proofs.YtgdpknmffohhaaaDoorW.PrintWords Go.Proofs.YtgdpknmffohhaaaDoorW.PrintLast Go.Proofs.YtgdpknmffohhaaaDoorW.PrintMore
attribute [local go_sem] max2_int min2_int max_two min_two max_three min_three max_four min_four   -- for this text's walks alone
set_option linter.unusedVariables false
set_option linter.unusedSimpArgs false

/-! ### chars_Text: function 129 (given) -/
def chars_Text.f (l0 : List Int) : Option ByteArray := some (runesBytes l0)
set_option maxHeartbeats 1000000 in
theorem chars_Text.calls (A0 : Option Addr) (c0 : Nat) (l0 : List Int) (r : ByteArray) (w : World) (hr0 : Kd.C (Kd.int .i32) w A0 l0.length l0) (hc0 : l0.length ≤ c0) (h : chars_Text.f l0 = some r) :
    Calls Tryd.prog 129 #[.slice A0 l0.length c0] w fun e w' => e = .returned (.string r) ∧ Drawn0 w w' := by
  have hcv : (convert 119 9 (.slice A0 l0.length c0)).run Tryd.prog w = .ok (.string (runesBytes l0)) w := by
    rcases Nat.eq_zero_or_pos l0.length with h0 | h0
    · obtain rfl : l0 = [] := List.eq_nil_of_length_eq_zero h0
      cases A0 with
      | none => exact run_convert_runes_nil w _ _ _ _ _ Tryd.underlying119 Tryd.underlying21 Tryd.underlying9
      | some ad => exact (run_convert_runes w _ _ _ ad 0 c0 [] (Nat.le_refl _) Tryd.underlying119 Tryd.underlying21 Tryd.underlying9 (fun j hj => absurd hj (by simp)))
    · obtain ⟨ad, rfl, hc⟩ := hr0.2.2 h0
      have h1 := run_convert_runes (P := Tryd.prog) w 119 9 21 ad l0.length c0 l0 (Nat.le_refl _) Tryd.underlying119 Tryd.underlying21 Tryd.underlying9 (fun j hj => by
        obtain ⟨c, hl, hk, hcell⟩ := hc j _ (List.getElem?_eq_getElem hj)
        have hk' : c = [.int .i32 l0[j]] := hk
        subst hk'
        have h2 := hcell 0 _ rfl
        rw [show (Kd.int .i32).sz = 1 from rfl, Nat.mul_one, Nat.add_zero] at h2
        rw [h2, List.getD_eq_getElem?_getD, List.getElem?_eq_getElem hj]
        rfl)
      rwa [List.take_length] at h1
  cases h
  clear hr0 hc0
  go_enter Tryd.func129, Tryd.ntmps129
  go_wp2
  go_ret
  exact ⟨rfl, Drawn0.refl _⟩

end Go.Proofs.YtgdpknmffohhaaaDoor.Pl

namespace Go.Proofs.YtgdpknmffohhaaaDoor.Pl
open Go.RowKit Go.Proofs.YtgdpknmffohhaaaDoorW.PrintWords Go.Proofs.YtgdpknmffohhaaaDoorW.PrintLast Go.Proofs.YtgdpknmffohhaaaDoorW.PrintMore
attribute [local go_sem] max2_int min2_int max_two min_two max_three min_three max_four min_four   -- for this text's walks alone
set_option linter.unusedVariables false
set_option linter.unusedSimpArgs false

/-! ### cells_Text: function 100 -/
def cells_Text.l0 : Nat → List Int → List (S71) → Int → Int → Option (ByteArray)
  | 0, _, _, _, _ => none
  | k + 1, x3, x6, x7, x8 => if x8 < x7 then (if 0 ≤ x8 then (if x8 < (x6.length : Int) then (if x3.length < 35184372088832 then (cells_Text.l0 k (x3 ++ [(rd_T71 x6 x8).f0]) x6 x7 (wrap64 (x8 + 1))) else (none)) else (none)) else (none)) else ((chars_Text.f x3).bind fun t116 => (some t116))
def cells_Text.f (k : Nat) (l0 : List (S71)) : Option (ByteArray) := cells_Text.l0 k ([] : List Int) l0 (l0.length : Int) 0
theorem cells_Text.mono_l : ∀ k, (∀ y0 y1 y2 y3, LeO (cells_Text.l0 k y0 y1 y2 y3) (cells_Text.l0 (k + 1) y0 y1 y2 y3))
  | 0 => fun _ _ _ _ r h => by simp [cells_Text.l0] at h
  | k + 1 => by
    have ih0 := cells_Text.mono_l k
    · intro y0 y1 y2 y3
      unfold cells_Text.l0
      repeat' first
      | (with_reducible exact ih0 _ _ _ _)
      | (with_reducible exact LeO.refl _)
      | (with_reducible exact LeO.none _)
      | (with_reducible refine LeO.ite ?_ ?_)
      | (with_reducible refine LeO.bind ?_ (fun _ => ?_))
      | exact ih0 _ _ _ _
      | exact LeO.none _
      | refine LeO.ite ?_ ?_
      | refine LeO.bind ?_ (fun _ => ?_)
theorem cells_Text.mono : ∀ a0 k, LeO (cells_Text.f k a0) (cells_Text.f (k + 1) a0) := by
  intro a0 k
  have ih0 := cells_Text.mono_l k
  unfold cells_Text.f
  repeat' first
      | (with_reducible exact ih0 _ _ _ _)
      | (with_reducible exact LeO.refl _)
      | (with_reducible exact LeO.none _)
      | (with_reducible refine LeO.ite ?_ ?_)
      | (with_reducible refine LeO.bind ?_ (fun _ => ?_))
      | exact ih0 _ _ _ _
      | exact LeO.none _
      | refine LeO.ite ?_ ?_
      | refine LeO.bind ?_ (fun _ => ?_)
set_option maxHeartbeats 8000000 in
set_option maxRecDepth 100000 in
theorem cells_Text.calls (k : Nat) (A0 : Option Addr) (c0 : Nat) (l0 : List (S71)) (r : ByteArray) (w : World) (hr0 : Kd.C k71 w A0 l0.length l0) (hc0 : l0.length ≤ c0) (h : cells_Text.f k l0 = some r) :
    Calls Tryd.prog 100 #[.slice A0 l0.length c0] w fun e w' => e = .returned (.string r) ∧ Below w.heap.size w w' := by
  have hu71 := Tryd.underlying71
  have HR0 := Aside0.mk hr0
  have HC0 := Aside0.mk hc0
  clear hr0 hc0
  have HB := Aside0.mk (Below.refl w.heap.size w)
  have H : (cells_Text.l0 k ([] : List Int) l0 (l0.length : Int) 0) = some r := h
  clear h
  have H' := Aside0.mk H
  clear H
  go_enter Tryd.func100, Tryd.ntmps100
  go_wp2
  go_loopg [3, 8] k (fun kq v3 v8 w' => ∃ (x3_1 : List Int) (x8_1 : Int), v8 = .int .i64 x8_1 ∧ Aside0 (cells_Text.l0 kq x3_1 l0 (l0.length : Int) x8_1 = some r) ∧ Aside0 (kq ≤ k) ∧ Aside0 (Kd.R (Kd.int .i32) 21 w' w.heap.size (fun _ => True) v3 x3_1) ∧ Aside0 (Below w.heap.size w w'))
  case atStart => exact ⟨(([] : List Int)), (0), (by first | rfl | (simp; done) | (simp [*]; done)), H', ⟨Nat.le_refl _⟩, ⟨by first | exact Kd.R_nil _ _ _ _ _ | exact Kd.N_nil _ _ _ _ _ | exact Kd.V_nil _ _ _ _ _ | exact Kd.Q_nil _ _ _ _ _ | exact Kd.S_nil _ _ _ _ _⟩, ⟨by repeat (first | (with_reducible first | exact HB.out | apply below_alloc | apply pw_below_drewN | apply below_drew1) | exact HB.out)⟩⟩
  case round =>
    clear H'
    try clear c1
    obtain ⟨x3_1, x8_1, rfl, HA, HK1, HO_3, HB⟩ := hrel
    cases gk with
    | zero => exact absurd HA.out (by simp [cells_Text.l0])
    | succ k1 =>
      have H := HA.out
      clear HA
      simp only [cells_Text.l0] at H
      by_cases c2 : x8_1 < (l0.length : Int)
      · rw [if_pos c2] at H
        have c2b0 : decide (x8_1 < (l0.length : Int)) = true := decide_eq_true c2
        clear c2
        by_cases c3 : 0 ≤ x8_1
        · rw [if_pos c3] at H
          have c3b0 : decide (0 ≤ x8_1) = true := decide_eq_true c3
          clear c3
          by_cases c4 : x8_1 < (l0.length : Int)
          · rw [if_pos c4] at H
            have c4b0 : decide (x8_1 < (l0.length : Int)) = true := decide_eq_true c4
            clear c4
            by_cases c5 : x3_1.length < 35184372088832
            · rw [if_pos c5] at H
              have LMc5 := Aside0.mk c5
              clear c5
              obtain ⟨y113, hy113⟩ : ∃ y_ : List Int, y_ = (x3_1 ++ [(rd_T71 l0 x8_1).f0]) := ⟨_, rfl⟩
              replace H : (cells_Text.l0 k1 y113 l0 (l0.length : Int) (wrap64 (x8_1 + 1))) = some r := by first | (rw [hy113]; with_reducible exact H) | (have H2_ := (Option.bind_some _ _).symm.trans H; rw [hy113]; with_reducible exact H2_) | (have H2_ := (Option.bind_some _ _).symm.trans H; with_reducible exact H2_) | with_reducible exact H | (rw [hy113]; exact H) | exact H
              have Ny113 := Aside0.mk hy113
              clear hy113
              have H' := Aside0.mk H
              clear H
              have p111 : 0 ≤ (x8_1 : Int) := of_decide_eq_true (by first | (with_reducible assumption) | assumption)
              have q111 : x8_1 < (l0.length : Int) := of_decide_eq_true (by first | (with_reducible assumption) | assumption)
              obtain ⟨ad111, e111, hx111_0, hx111_1, hx111_2⟩ := at_T71 HR0.out x8_1 p111 q111
              cases e111
              replace hx111_0 := (HB.out.cell (World.block_lt_of_cell? w _ hx111_0)).trans hx111_0
              replace hx111_1 := (HB.out.cell (World.block_lt_of_cell? w _ hx111_1)).trans hx111_1
              replace hx111_2 := (HB.out.cell (World.block_lt_of_cell? w _ hx111_2)).trans hx111_2
              replace p111 := eq_true p111
              replace q111 := eq_true q111
              go_wp2_with (first | ((with_reducible refine gate_dst (N := 5) rfl ?_); refine box_event ?hg (N := 5) ?hd (cs := #[.int .i32 0, .int .i64 0, .string (⟨#[]⟩ : ByteArray)]) (t := 71) ?hr ?_; (case hd => rfl); (case hg => rfl); (case hr => first | (go_simp; done) | (go_simp; rfl)); intro gb112 hg w6 hbox hb; have n0_ := Aside0.mk (Kd.R_below (by (with_reducible repeat (first | apply Kd.R_alloc | apply Kd.R_drewN | apply Kd.R_drew)); exact HO_3.out) hb); have n1_ := Aside0.mk (below_step (by repeat (first | (with_reducible first | exact HB.out | apply below_alloc | apply pw_below_drewN | apply below_drew1) | exact HB.out)) hb); have n2_ := Aside0.mk (hbox); have n3_ := Aside0.mk ((by rw [hg]; exact (below_size (by repeat (first | (with_reducible first | exact HB.out | apply below_alloc | apply pw_below_drewN | apply below_drew1) | exact HB.out))) : w.heap.size ≤ gb112)); have n4_ := Aside0.mk ((by rw [hg]; exact (below_size (by repeat (first | (with_reducible first | exact HB.out | apply below_alloc | apply pw_below_drewN | apply below_drew1) | exact HB.out))) : w.heap.size ≤ gb112)); clear HO_3; clear HB; have HO_3 := n0_; have HB := n1_; have BK112 := n2_; have GW112 := n3_; have GE112 := n4_; clear n0_ n1_ n2_ n3_ n4_; clear hb hbox hg; have hcz7_0 : w6.cell? ⟨gb112, 0, none⟩ = some (.int .i32 0) := (blk_cell BK112.out 0).trans rfl; have hcz7_1 : w6.cell? ⟨gb112, 1, none⟩ = some (.int .i64 0) := (blk_cell BK112.out 1).trans rfl; have hcz7_2 : w6.cell? ⟨gb112, 2, none⟩ = some (.string (⟨#[]⟩ : ByteArray)) := (blk_cell BK112.out 2).trans rfl; have hfz7_0 := blk_frozen BK112.out 0; have hfz7_1 := blk_frozen BK112.out 1; have hfz7_2 := blk_frozen BK112.out 2) | ((with_reducible refine gate_builtin (b := .append) (xs := #[.tmp 12, .tmp 15]) rfl ?_); at_builtin; refine Kd.R_append (Kd.int .i32) (w0 := w) w.heap.size rfl (.tmp 12) (.tmp 15) 119 21 (.int .i32 0) 4 rfl Tryd.underlying119 info21 rfl (by decide) (by omega) u3 x3_1 ((rd_T71 l0 x8_1).f0) [.int .i32 ((rd_T71 l0 x8_1).f0)] (fun _ => True) (fun _ => False) rfl (by first | (go_simp; done) | (go_simp; rfl)) ?aP (fun _ hk => hk.elim) ?aF ?aO ?aB ?aS ?aL ?_; (case aP => exact rfl); (case aB => exact (by repeat (first | (with_reducible first | exact HB.out | apply below_alloc | apply pw_below_drewN | apply below_drew1 | refine below_set ?_ GE112.out) | exact HB.out))); (case aF => exact (fun _ _ => trivial)); (case aO => exact (by (with_reducible repeat (first | apply Kd.R_alloc | apply Kd.R_drewN | apply Kd.R_drew)); exact Kd.R_mono (Kd.R_far (p := ⟨gb112, 2, none⟩) (Kd.R_far (p := ⟨gb112, 1, none⟩) (Kd.R_far (p := ⟨gb112, 0, none⟩) (Kd.R_types HO_3.out BK112.out (by decide)) (fun _ hk => hk.2) (.int .i32 ((rd_T71 l0 x8_1).f0))) (fun _ hk => hk.2) (.int .i64 ((rd_T71 l0 x8_1).f1))) (fun _ hk => hk.2) (.string ((rd_T71 l0 x8_1).f2))) (fun _ hk => trivial))); (case aS => exact (below_size (by repeat (first | (with_reducible first | exact HB.out | apply below_alloc | apply pw_below_drewN | apply below_drew1 | refine below_set ?_ GE112.out) | exact HB.out)))); (case aL => have := LMc5.out; omega); intro v114 w8 ho hb hg hat; rw [← Ny113.out] at ho; have n0_ := Aside0.mk (blk_grown (g := gb112) (o := .cells #[.int .i32 ((rd_T71 l0 x8_1).f0), .int .i64 ((rd_T71 l0 x8_1).f1), .string ((rd_T71 l0 x8_1).f2)] 71 (0, 0)) (by (with_reducible repeat (first | refine blk_drewN ?_ _ | refine blk_drew ?_ | refine blk_alloc ?_ _)); refine blk_put (cs := #[.int .i32 ((rd_T71 l0 x8_1).f0), .int .i64 ((rd_T71 l0 x8_1).f1), .string (⟨#[]⟩ : ByteArray)]) ?_ 2 _ rfl; (with_reducible repeat (first | refine blk_drewN ?_ _ | refine blk_drew ?_ | refine blk_alloc ?_ _)); refine blk_put (cs := #[.int .i32 ((rd_T71 l0 x8_1).f0), .int .i64 0, .string (⟨#[]⟩ : ByteArray)]) ?_ 1 _ rfl; (with_reducible repeat (first | refine blk_drewN ?_ _ | refine blk_drew ?_ | refine blk_alloc ?_ _)); refine blk_put (cs := #[.int .i32 0, .int .i64 0, .string (⟨#[]⟩ : ByteArray)]) ?_ 0 _ rfl; (with_reducible repeat (first | refine blk_drewN ?_ _ | refine blk_drew ?_ | refine blk_alloc ?_ _)); exact BK112.out) hg (Kd.R_ne HO_3.out BK112.out (by decide))); have n1_ := Aside0.mk (hb); have n2_ := Aside0.mk (ho); clear BK112; clear HB; clear HO_3; have BK112 := n0_; have HB := n1_; have HO115 := n2_; clear n0_ n1_ n2_; clear ho hb hg hat))
              go_roundg k1
              case measure => have := HK1.out; omega
              case rel => exact ⟨(y113), (wrap64 (x8_1 + 1)), (by first | rfl | (simp; done) | (simp [*]; done)), H', ⟨by have := HK1.out; omega⟩, ⟨by (with_reducible repeat (first | apply Kd.R_alloc | apply Kd.R_drewN | apply Kd.R_drew)); exact HO115.out⟩, ⟨by repeat (first | (with_reducible first | exact HB.out | apply below_alloc | apply pw_below_drewN | apply below_drew1 | refine below_set ?_ GE112.out) | exact HB.out)⟩⟩
            · rw [if_neg c5] at H
              exact absurd H (by simp)
          · rw [if_neg c4] at H
            exact absurd H (by simp)
        · rw [if_neg c3] at H
          exact absurd H (by simp)
      · rw [if_neg c2] at H
        have c2b0 : decide (x8_1 < (l0.length : Int)) = false := decide_eq_false c2
        clear c2
        replace H := Option.bind_eq_some_iff.mp H
        obtain ⟨t116, A90, H⟩ := H
        replace H : (some t116) = some r := H
        have A9 := Aside0.mk A90
        clear A90
        obtain rfl := Option.some.inj H
        obtain ⟨Ao10, co10, eo10⟩ := Kd.R_slice HO_3.out
        subst eo10
        go_wp2_with (first | ((with_reducible refine gate_callee (f := 129) rfl ?_); refine goesL_ (some 19) rfl rfl Tryd.func129 (by kernel_rfl) rfl #[.slice Ao10 x3_1.length co10] rfl (by (try simp only [List.map_toArray, List.map_cons, List.map_nil]); first | done | rfl | (simp only [List.length_drop, List.length_take]; rfl)) ?_; (with_reducible refine (chars_Text.calls _ _ x3_1 t116 _ ?side1 ?side2 A9.out).mono ?_); (case side1 => repeat (first | exact (Kd.R_reads' HO_3.out).2.2 | (with_reducible refine Kd.C_alloc ?_ _) | (with_reducible refine Kd.C_drewN ?_ _) | (with_reducible refine Kd.C_drew ?_))); (case side2 => exact (Kd.R_reads' HO_3.out).2.1); rintro e w' ⟨rfl, ⟨nd, rfl⟩⟩; refine ⟨_, rfl, ?_⟩))
        go_ret
        exact ⟨by first | rfl | (simp [errW_none, errW_some] <;> rfl) | (simp [*, errW_none, errW_some] <;> rfl), by repeat (first | (with_reducible first | exact HB.out | apply below_alloc | apply pw_below_drewN | apply below_drew1) | exact HB.out)⟩

end Go.Proofs.YtgdpknmffohhaaaDoor.Pl
