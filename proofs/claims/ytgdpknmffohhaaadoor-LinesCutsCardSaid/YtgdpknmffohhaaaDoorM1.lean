/- Printed texts, and given ones, of the seat's functions, in one file. -/
import Derived.Test.YtgdpknmffohhaaaDoorM0
import Derived.BigRegion
namespace Go.Proofs.YtgdpknmffohhaaaDoor.Pl
open Go.RowKit Go.Proofs.YtgdpknmffohhaaaDoorW.PrintWords Go.Proofs.YtgdpknmffohhaaaDoorW.PrintLast Go.Proofs.YtgdpknmffohhaaaDoorW.PrintMore
attribute [local go_sem] max2_int min2_int max_two min_two max_three min_three max_four min_four   -- for this text's walks alone
set_option linter.unusedVariables false
set_option linter.unusedSimpArgs false

/-! ### quillworkref05_Same: function 36 -/
def quillworkref05_Same.l0 : Nat → List (S71) → List (S71) → Int → Option (Bool)
  | 0, _, _, _ => none
  | k + 1, x0, x1, x5 => if x5 < (x0.length : Int) then (if 0 ≤ x5 then (if x5 < (x1.length : Int) then (if ((rd_T71 x0 x5).f0) = ((rd_T71 x1 x5).f0) then (if ((rd_T71 x0 x5).f1) = ((rd_T71 x1 x5).f1) then (if ((rd_T71 x0 x5).f2).toList = ((rd_T71 x1 x5).f2).toList then (quillworkref05_Same.l0 k x0 x1 (wrap64 (x5 + 1))) else (some false)) else (some false)) else (some false)) else (none)) else (none)) else (some true)
def quillworkref05_Same.f (k : Nat) (l0 : List (S71)) (l1 : List (S71)) : Option (Bool) := if (l0.length : Int) = (l1.length : Int) then (quillworkref05_Same.l0 k l0 l1 0) else (some false)
set_option maxHeartbeats 8000000 in
set_option maxRecDepth 100000 in
theorem quillworkref05_Same.calls (k : Nat) (A0 : Option Addr) (c0 : Nat) (l0 : List (S71)) (A1 : Option Addr) (c1 : Nat) (l1 : List (S71)) (r : Bool) (w : World) (hr0 : Kd.C k71 w A0 l0.length l0) (hc0 : l0.length ≤ c0) (hr1 : Kd.C k71 w A1 l1.length l1) (hc1 : l1.length ≤ c1) (h : quillworkref05_Same.f k l0 l1 = some r) :
    Calls Tryd.prog 36 #[.slice A0 l0.length c0, .slice A1 l1.length c1] w fun e w' => e = .returned (.bool r) ∧ Drawn0 w w' := by
  have HR0 := Aside0.mk hr0
  have HC0 := Aside0.mk hc0
  clear hr0 hc0
  have HR1 := Aside0.mk hr1
  have HC1 := Aside0.mk hc1
  clear hr1 hc1
  have H : (if (l0.length : Int) = (l1.length : Int) then (quillworkref05_Same.l0 k l0 l1 0) else (some false)) = some r := h
  clear h
  by_cases c3 : (l0.length : Int) = (l1.length : Int)
  · rw [if_pos c3] at H
    have c3b0 : ((l0.length : Int) == (l1.length : Int)) = true := beq_iff_eq.mpr c3
    have c3b1 : ((l0.length : Int) != (l1.length : Int)) = false := bne_eq_false_iff_eq.mpr c3
    have c3b2 : (l0.length == l1.length) = true := by first | simpa using c3 | (simp at c3 ⊢; omega)
    clear c3
    have H' := Aside0.mk H
    clear H
    go_enter Tryd.func36, Tryd.ntmps36
    go_wp2
    repeat (go_quiet (fail); try go_wp2)
    go_loopg [5] k (fun kq v5 w' => ∃ (x5_1 : Int), v5 = .int .i64 x5_1 ∧ Aside0 (quillworkref05_Same.l0 kq l0 l1 x5_1 = some r) ∧ Aside0 (kq ≤ k) ∧ Drawn0 w w')
    case atStart => exact ⟨(0), (by first | rfl | (simp; done) | (simp [*]; done)), H', ⟨Nat.le_refl _⟩, by repeat (first | exact Drawn0.refl _ | apply Drawn0.step)⟩
    case round =>
      clear H'
      try clear c1
      try clear p2
      try clear c3
      try clear c3b0
      try clear c3b1
      try clear c3b2
      obtain ⟨x5_1, rfl, HA, HK1, ⟨m1, rfl⟩⟩ := hrel
      cases gk with
      | zero => exact absurd HA.out (by simp [quillworkref05_Same.l0])
      | succ k1 =>
        have H := HA.out
        clear HA
        simp only [quillworkref05_Same.l0] at H
        by_cases c4 : x5_1 < (l0.length : Int)
        · rw [if_pos c4] at H
          have c4b0 : decide (x5_1 < (l0.length : Int)) = true := decide_eq_true c4
          clear c4
          by_cases c5 : 0 ≤ x5_1
          · rw [if_pos c5] at H
            have c5b0 : decide (0 ≤ x5_1) = true := decide_eq_true c5
            clear c5
            by_cases c6 : x5_1 < (l1.length : Int)
            · rw [if_pos c6] at H
              have c6b0 : decide (x5_1 < (l1.length : Int)) = true := decide_eq_true c6
              clear c6
              by_cases c7 : ((rd_T71 l0 x5_1).f0) = ((rd_T71 l1 x5_1).f0)
              · rw [if_pos c7] at H
                have c7b0 : (((rd_T71 l0 x5_1).f0) == ((rd_T71 l1 x5_1).f0)) = true := beq_iff_eq.mpr c7
                have c7b1 : (((rd_T71 l0 x5_1).f0) != ((rd_T71 l1 x5_1).f0)) = false := bne_eq_false_iff_eq.mpr c7
                clear c7
                by_cases c8 : ((rd_T71 l0 x5_1).f1) = ((rd_T71 l1 x5_1).f1)
                · rw [if_pos c8] at H
                  have c8b0 : (((rd_T71 l0 x5_1).f1) == ((rd_T71 l1 x5_1).f1)) = true := beq_iff_eq.mpr c8
                  have c8b1 : (((rd_T71 l0 x5_1).f1) != ((rd_T71 l1 x5_1).f1)) = false := bne_eq_false_iff_eq.mpr c8
                  clear c8
                  by_cases c9 : ((rd_T71 l0 x5_1).f2).toList = ((rd_T71 l1 x5_1).f2).toList
                  · rw [if_pos c9] at H
                    have c9b0 : (((rd_T71 l0 x5_1).f2).toList == ((rd_T71 l1 x5_1).f2).toList) = true := beq_iff_eq.mpr c9
                    have c9b1 : (((rd_T71 l0 x5_1).f2).toList != ((rd_T71 l1 x5_1).f2).toList) = false := bne_eq_false_iff_eq.mpr c9
                    clear c9
                    have H' := Aside0.mk H
                    clear H
                    have p187 : 0 ≤ (x5_1 : Int) := of_decide_eq_true (by first | (with_reducible assumption) | assumption)
                    have q187 : x5_1 < (l0.length : Int) := of_decide_eq_true (by first | (with_reducible assumption) | assumption)
                    obtain ⟨ad187, e187, hx187_0, hx187_1, hx187_2⟩ := at_T71 HR0.out x5_1 p187 q187
                    cases e187
                    replace p187 := eq_true p187
                    replace q187 := eq_true q187
                    have p188 : 0 ≤ (x5_1 : Int) := of_decide_eq_true (by first | (with_reducible assumption) | assumption)
                    have q188 : x5_1 < (l1.length : Int) := of_decide_eq_true (by first | (with_reducible assumption) | assumption)
                    obtain ⟨ad188, e188, hx188_0, hx188_1, hx188_2⟩ := at_T71 HR1.out x5_1 p188 q188
                    cases e188
                    replace p188 := eq_true p188
                    replace q188 := eq_true q188
                    have p189 : 0 ≤ (x5_1 : Int) := of_decide_eq_true (by first | (with_reducible assumption) | assumption)
                    have q189 : x5_1 < (l0.length : Int) := of_decide_eq_true (by first | (with_reducible assumption) | assumption)
                    obtain ⟨ad189, e189, hx189_0, hx189_1, hx189_2⟩ := at_T71 HR0.out x5_1 p189 q189
                    obtain rfl : ad187 = ad189 := (by injection e189)
                    replace p189 := eq_true p189
                    replace q189 := eq_true q189
                    have p190 : 0 ≤ (x5_1 : Int) := of_decide_eq_true (by first | (with_reducible assumption) | assumption)
                    have q190 : x5_1 < (l1.length : Int) := of_decide_eq_true (by first | (with_reducible assumption) | assumption)
                    obtain ⟨ad190, e190, hx190_0, hx190_1, hx190_2⟩ := at_T71 HR1.out x5_1 p190 q190
                    obtain rfl : ad188 = ad190 := (by injection e190)
                    replace p190 := eq_true p190
                    replace q190 := eq_true q190
                    have p191 : 0 ≤ (x5_1 : Int) := of_decide_eq_true (by first | (with_reducible assumption) | assumption)
                    have q191 : x5_1 < (l0.length : Int) := of_decide_eq_true (by first | (with_reducible assumption) | assumption)
                    obtain ⟨ad191, e191, hx191_0, hx191_1, hx191_2⟩ := at_T71 HR0.out x5_1 p191 q191
                    obtain rfl : ad187 = ad191 := (by injection e191)
                    replace p191 := eq_true p191
                    replace q191 := eq_true q191
                    have p192 : 0 ≤ (x5_1 : Int) := of_decide_eq_true (by first | (with_reducible assumption) | assumption)
                    have q192 : x5_1 < (l1.length : Int) := of_decide_eq_true (by first | (with_reducible assumption) | assumption)
                    obtain ⟨ad192, e192, hx192_0, hx192_1, hx192_2⟩ := at_T71 HR1.out x5_1 p192 q192
                    obtain rfl : ad188 = ad192 := (by injection e192)
                    replace p192 := eq_true p192
                    replace q192 := eq_true q192
                    go_wp2
                    repeat (go_quiet (fail); try go_wp2)
                    go_roundg k1
                    case measure => have := HK1.out; omega
                    case rel => exact ⟨(wrap64 (x5_1 + 1)), (by first | rfl | (simp; done) | (simp [*]; done)), H', ⟨by have := HK1.out; omega⟩, by repeat (first | exact Drawn0.refl _ | apply Drawn0.step)⟩
                  · rw [if_neg c9] at H
                    have c9b0 : (((rd_T71 l0 x5_1).f2).toList == ((rd_T71 l1 x5_1).f2).toList) = false := beq_eq_false_iff_ne.mpr c9
                    have c9b1 : (((rd_T71 l0 x5_1).f2).toList != ((rd_T71 l1 x5_1).f2).toList) = true := bne_iff_ne.mpr c9
                    obtain rfl := Option.some.inj H
                    have p187 : 0 ≤ (x5_1 : Int) := of_decide_eq_true (by first | (with_reducible assumption) | assumption)
                    have q187 : x5_1 < (l0.length : Int) := of_decide_eq_true (by first | (with_reducible assumption) | assumption)
                    obtain ⟨ad187, e187, hx187_0, hx187_1, hx187_2⟩ := at_T71 HR0.out x5_1 p187 q187
                    cases e187
                    replace p187 := eq_true p187
                    replace q187 := eq_true q187
                    have p188 : 0 ≤ (x5_1 : Int) := of_decide_eq_true (by first | (with_reducible assumption) | assumption)
                    have q188 : x5_1 < (l1.length : Int) := of_decide_eq_true (by first | (with_reducible assumption) | assumption)
                    obtain ⟨ad188, e188, hx188_0, hx188_1, hx188_2⟩ := at_T71 HR1.out x5_1 p188 q188
                    cases e188
                    replace p188 := eq_true p188
                    replace q188 := eq_true q188
                    have p189 : 0 ≤ (x5_1 : Int) := of_decide_eq_true (by first | (with_reducible assumption) | assumption)
                    have q189 : x5_1 < (l0.length : Int) := of_decide_eq_true (by first | (with_reducible assumption) | assumption)
                    obtain ⟨ad189, e189, hx189_0, hx189_1, hx189_2⟩ := at_T71 HR0.out x5_1 p189 q189
                    obtain rfl : ad187 = ad189 := (by injection e189)
                    replace p189 := eq_true p189
                    replace q189 := eq_true q189
                    have p190 : 0 ≤ (x5_1 : Int) := of_decide_eq_true (by first | (with_reducible assumption) | assumption)
                    have q190 : x5_1 < (l1.length : Int) := of_decide_eq_true (by first | (with_reducible assumption) | assumption)
                    obtain ⟨ad190, e190, hx190_0, hx190_1, hx190_2⟩ := at_T71 HR1.out x5_1 p190 q190
                    obtain rfl : ad188 = ad190 := (by injection e190)
                    replace p190 := eq_true p190
                    replace q190 := eq_true q190
                    have p191 : 0 ≤ (x5_1 : Int) := of_decide_eq_true (by first | (with_reducible assumption) | assumption)
                    have q191 : x5_1 < (l0.length : Int) := of_decide_eq_true (by first | (with_reducible assumption) | assumption)
                    obtain ⟨ad191, e191, hx191_0, hx191_1, hx191_2⟩ := at_T71 HR0.out x5_1 p191 q191
                    obtain rfl : ad187 = ad191 := (by injection e191)
                    replace p191 := eq_true p191
                    replace q191 := eq_true q191
                    have p192 : 0 ≤ (x5_1 : Int) := of_decide_eq_true (by first | (with_reducible assumption) | assumption)
                    have q192 : x5_1 < (l1.length : Int) := of_decide_eq_true (by first | (with_reducible assumption) | assumption)
                    obtain ⟨ad192, e192, hx192_0, hx192_1, hx192_2⟩ := at_T71 HR1.out x5_1 p192 q192
                    obtain rfl : ad188 = ad192 := (by injection e192)
                    replace p192 := eq_true p192
                    replace q192 := eq_true q192
                    go_wp2
                    repeat (go_quiet (fail); try go_wp2)
                    go_ret
                    exact ⟨by first | rfl | (simp; done) | (simp [*]; done), by repeat (first | exact Drawn0.refl _ | apply Drawn0.step)⟩
                · rw [if_neg c8] at H
                  have c8b0 : (((rd_T71 l0 x5_1).f1) == ((rd_T71 l1 x5_1).f1)) = false := beq_eq_false_iff_ne.mpr c8
                  have c8b1 : (((rd_T71 l0 x5_1).f1) != ((rd_T71 l1 x5_1).f1)) = true := bne_iff_ne.mpr c8
                  obtain rfl := Option.some.inj H
                  have p187 : 0 ≤ (x5_1 : Int) := of_decide_eq_true (by first | (with_reducible assumption) | assumption)
                  have q187 : x5_1 < (l0.length : Int) := of_decide_eq_true (by first | (with_reducible assumption) | assumption)
                  obtain ⟨ad187, e187, hx187_0, hx187_1, hx187_2⟩ := at_T71 HR0.out x5_1 p187 q187
                  cases e187
                  replace p187 := eq_true p187
                  replace q187 := eq_true q187
                  have p188 : 0 ≤ (x5_1 : Int) := of_decide_eq_true (by first | (with_reducible assumption) | assumption)
                  have q188 : x5_1 < (l1.length : Int) := of_decide_eq_true (by first | (with_reducible assumption) | assumption)
                  obtain ⟨ad188, e188, hx188_0, hx188_1, hx188_2⟩ := at_T71 HR1.out x5_1 p188 q188
                  cases e188
                  replace p188 := eq_true p188
                  replace q188 := eq_true q188
                  have p189 : 0 ≤ (x5_1 : Int) := of_decide_eq_true (by first | (with_reducible assumption) | assumption)
                  have q189 : x5_1 < (l0.length : Int) := of_decide_eq_true (by first | (with_reducible assumption) | assumption)
                  obtain ⟨ad189, e189, hx189_0, hx189_1, hx189_2⟩ := at_T71 HR0.out x5_1 p189 q189
                  obtain rfl : ad187 = ad189 := (by injection e189)
                  replace p189 := eq_true p189
                  replace q189 := eq_true q189
                  have p190 : 0 ≤ (x5_1 : Int) := of_decide_eq_true (by first | (with_reducible assumption) | assumption)
                  have q190 : x5_1 < (l1.length : Int) := of_decide_eq_true (by first | (with_reducible assumption) | assumption)
                  obtain ⟨ad190, e190, hx190_0, hx190_1, hx190_2⟩ := at_T71 HR1.out x5_1 p190 q190
                  obtain rfl : ad188 = ad190 := (by injection e190)
                  replace p190 := eq_true p190
                  replace q190 := eq_true q190
                  go_wp2
                  repeat (go_quiet (fail); try go_wp2)
                  go_ret
                  exact ⟨by first | rfl | (simp; done) | (simp [*]; done), by repeat (first | exact Drawn0.refl _ | apply Drawn0.step)⟩
              · rw [if_neg c7] at H
                have c7b0 : (((rd_T71 l0 x5_1).f0) == ((rd_T71 l1 x5_1).f0)) = false := beq_eq_false_iff_ne.mpr c7
                have c7b1 : (((rd_T71 l0 x5_1).f0) != ((rd_T71 l1 x5_1).f0)) = true := bne_iff_ne.mpr c7
                obtain rfl := Option.some.inj H
                have p187 : 0 ≤ (x5_1 : Int) := of_decide_eq_true (by first | (with_reducible assumption) | assumption)
                have q187 : x5_1 < (l0.length : Int) := of_decide_eq_true (by first | (with_reducible assumption) | assumption)
                obtain ⟨ad187, e187, hx187_0, hx187_1, hx187_2⟩ := at_T71 HR0.out x5_1 p187 q187
                cases e187
                replace p187 := eq_true p187
                replace q187 := eq_true q187
                have p188 : 0 ≤ (x5_1 : Int) := of_decide_eq_true (by first | (with_reducible assumption) | assumption)
                have q188 : x5_1 < (l1.length : Int) := of_decide_eq_true (by first | (with_reducible assumption) | assumption)
                obtain ⟨ad188, e188, hx188_0, hx188_1, hx188_2⟩ := at_T71 HR1.out x5_1 p188 q188
                cases e188
                replace p188 := eq_true p188
                replace q188 := eq_true q188
                go_wp2
                repeat (go_quiet (fail); try go_wp2)
                go_ret
                exact ⟨by first | rfl | (simp; done) | (simp [*]; done), by repeat (first | exact Drawn0.refl _ | apply Drawn0.step)⟩
            · rw [if_neg c6] at H
              exact absurd H (by simp)
          · rw [if_neg c5] at H
            exact absurd H (by simp)
        · rw [if_neg c4] at H
          have c4b0 : decide (x5_1 < (l0.length : Int)) = false := decide_eq_false c4
          clear c4
          obtain rfl := Option.some.inj H
          go_wp2
          repeat (go_quiet (fail); try go_wp2)
          go_ret
          exact ⟨by first | rfl | (simp; done) | (simp [*]; done), by repeat (first | exact Drawn0.refl _ | apply Drawn0.step)⟩
  · rw [if_neg c3] at H
    have c3b0 : ((l0.length : Int) == (l1.length : Int)) = false := beq_eq_false_iff_ne.mpr c3
    have c3b1 : ((l0.length : Int) != (l1.length : Int)) = true := bne_iff_ne.mpr c3
    have c3b2 : (l0.length == l1.length) = false := by first | simpa using c3 | (simp at c3 ⊢; omega)
    obtain rfl := Option.some.inj H
    go_enter Tryd.func36, Tryd.ntmps36
    go_wp2
    repeat (go_quiet (fail); try go_wp2)
    go_ret
    exact ⟨by first | rfl | (simp; done) | (simp [*]; done), by repeat (first | exact Drawn0.refl _ | apply Drawn0.step)⟩

end Go.Proofs.YtgdpknmffohhaaaDoor.Pl

/- Whether lines are the same; whether a line is long. -/
namespace Go.Proofs.YtgdpknmffohhaaaDoor.Pl
open Go.RowKit Go.Lib Go.Proofs.YtgdpknmffohhaaaDoorW.PrintWords Go.Proofs.YtgdpknmffohhaaaDoorW.PrintLast Go.Proofs.YtgdpknmffohhaaaDoorW.PrintMore
set_option linter.unusedVariables false
def cellEq (a b : S71) : Bool := (a.f0 == b.f0) && ((a.f1 == b.f1) && (a.f2.toList == b.f2.toList))
theorem cellEq_iff {a b : S71} : cellEq a b = true ↔ a = b := by
  unfold cellEq
  rw [Bool.and_eq_true, Bool.and_eq_true, beq_iff_eq, beq_iff_eq, beq_iff_eq]
  constructor
  · rintro ⟨h0, h1, h2⟩
    obtain ⟨a0, a1, a2⟩ := a
    obtain ⟨b0, b1, b2⟩ := b
    dsimp only at h0 h1 h2
    rw [ByteArray.toList_eq, ByteArray.toList_eq] at h2
    have h3 : a2 = b2 := by
      cases a2
      cases b2
      congr 1
      exact Array.toList_inj.1 h2
    rw [h0, h1, h3]
  · rintro rfl
    exact ⟨rfl, rfl, rfl⟩
def sameC : List S71 → List S71 → Bool
  | [], [] => true
  | a :: s, b :: t => cellEq a b && sameC s t
  | _, _ => false
theorem sameC_iff : ∀ {x y : List S71}, sameC x y = true ↔ x = y
  | [], [] => by simp [sameC]
  | a :: s, b :: t => by
    rw [sameC, Bool.and_eq_true, cellEq_iff, sameC_iff, List.cons.injEq]
  | [], b :: t => by simp [sameC]
  | a :: s, [] => by simp [sameC]
theorem sameC_len {x y : List S71} (h : x.length ≠ y.length) : sameC x y = false := by
  cases e : sameC x y with
  | false => rfl
  | true => exact absurd (congrArg List.length (sameC_iff.1 e)) h
def sameL (x y : Ln) : Bool := (x.q == y.q) && ((x.k == y.k) && ((x.ls == y.ls) && sameC x.cs y.cs))
theorem sameL_iff {x y : Ln} : sameL x y = true ↔ x = y := by
  unfold sameL
  rw [Bool.and_eq_true, Bool.and_eq_true, Bool.and_eq_true, beq_iff_eq, beq_iff_eq, beq_iff_eq, sameC_iff]
  constructor
  · rintro ⟨h0, h1, h2, h3⟩
    cases x
    cases y
    dsimp only at h0 h1 h2 h3
    rw [h0, h1, h2, h3]
  · rintro rfl
    exact ⟨rfl, rfl, rfl, rfl⟩
theorem w64s_ (n : Int) (h : -9223372036854775808 ≤ n ∧ n ≤ 9223372036854775807) : wrap64 n = n := by unfold wrap64; omega
theorem rdc_ {l : List S71} {i : Nat} (h : i < l.length) : rd_T71 l (i : Int) = l[i] := by
  unfold rd_T71
  rw [List.getD_eq_getElem?_getD, Int.toNat_natCast, List.getElem?_eq_getElem h]
  rfl
theorem rdi_ {l : List Int} {i : Nat} (h : i < l.length) : rd l (i : Int) = l[i] := by
  unfold rd
  rw [List.getD_eq_getElem?_getD, Int.toNat_natCast, List.getElem?_eq_getElem h]
  rfl
theorem eqR_loop_ (x y : List S71) (hl : x.length = y.length) (hx : x.length ≤ 1000000000) : ∀ (m i : Nat), x.length - i = m → i ≤ x.length → Ev (fun k => quillworkref05_Same.l0 k x y (i : Int)) (sameC (x.drop i) (y.drop i)) := by
  intro m
  induction m with
  | zero =>
    intro i hm hi
    refine Ev.step (f := fun _ => some _) (fun k => ?_) (Ev.now _)
    simp only [quillworkref05_Same.l0]
    rw [if_neg (by omega), List.drop_eq_nil_of_le (by omega), List.drop_eq_nil_of_le (by omega)]
    rfl
  | succ m ih =>
    intro i hm hi
    have e3 : wrap64 ((i : Int) + 1) = ((i + 1 : Nat) : Int) := by rw [w64s_ _ (by omega)]; omega
    have hd : sameC (x.drop i) (y.drop i) = (cellEq (x[i]'(by omega)) (y[i]'(by omega)) && sameC (x.drop (i + 1)) (y.drop (i + 1))) := by
      rw [List.drop_eq_getElem_cons (show i < x.length by omega), List.drop_eq_getElem_cons (show i < y.length by omega)]
      rfl
    rw [hd]
    have ex := rdc_ (l := x) (i := i) (by omega)
    have ey := rdc_ (l := y) (i := i) (by omega)
    generalize x[i]'(by omega) = a at ex ⊢
    generalize y[i]'(by omega) = b at ey ⊢
    by_cases h : a = b
    · rw [cellEq_iff.2 h, Bool.true_and]
      refine Ev.step (fun k => ?_) (ih (i + 1) (by omega) (by omega))
      simp only [quillworkref05_Same.l0]
      rw [if_pos (by omega), if_pos (by omega), if_pos (by omega), ex, ey, h, if_pos rfl, if_pos rfl, if_pos rfl, e3]
    · have hf : cellEq a b = false := by
        cases e : cellEq a b with
        | false => rfl
        | true => exact absurd (cellEq_iff.1 e) h
      rw [hf, Bool.false_and]
      refine Ev.step (f := fun _ => some _) (fun k => ?_) (Ev.now _)
      simp only [quillworkref05_Same.l0]
      rw [if_pos (by omega), if_pos (by omega), if_pos (by omega), ex, ey]
      unfold cellEq at hf
      by_cases h0 : a.f0 = b.f0
      · rw [if_pos h0]
        by_cases h1 : a.f1 = b.f1
        · rw [if_pos h1]
          rw [beq_iff_eq.mpr h0, beq_iff_eq.mpr h1, Bool.true_and, Bool.true_and, beq_eq_false_iff_ne] at hf
          rw [if_neg hf]
        · rw [if_neg h1]
      · rw [if_neg h0]
def hrefs (cs : List S71) : Nat := (cs.map fun c => c.f2.size).sum
def longL (x : Ln) : Bool := decide (20000 < x.cs.length) || (decide (1000 < x.ls.length) || decide (200000 < hrefs x.cs))
theorem hrefs_append (a b : List S71) : hrefs (a ++ b) = hrefs a + hrefs b := by unfold hrefs; rw [List.map_append, List.sum_append]
theorem hrefs_mem {cs : List S71} {c : S71} (h : c ∈ cs) : c.f2.size ≤ hrefs cs := by
  induction cs with
  | nil => cases h
  | cons a t ih =>
    rw [show a :: t = [a] ++ t from rfl, hrefs_append]
    rcases List.mem_cons.1 h with rfl | h
    · unfold hrefs; simp
    · have := ih h; omega
theorem hrefs_take (cs : List S71) (i : Nat) : hrefs (cs.take i) ≤ hrefs cs := by
  have := hrefs_append (cs.take i) (cs.drop i)
  rw [List.take_append_drop] at this
  omega
theorem hrefs_step {cs : List S71} {i : Nat} {c : S71} (h : cs[i]? = some c) : hrefs (cs.take (i + 1)) = hrefs (cs.take i) + c.f2.size := by
  rw [List.take_add_one, h, hrefs_append]
  unfold hrefs
  simp
theorem longL_Sz {x : Ln} (h : longL x = false) : Sz x := by
  unfold longL at h
  rw [Bool.or_eq_false_iff, Bool.or_eq_false_iff, decide_eq_false_iff_not, decide_eq_false_iff_not, decide_eq_false_iff_not] at h
  exact ⟨by omega, by omega, fun c hc => by have := hrefs_mem hc; omega⟩
set_option maxRecDepth 100000 in
set_option maxHeartbeats 4000000 in
theorem long06_calls_ (x : Ln) (v : Value) (w : World) (hx : RdL w v x) (hok : ∀ c ∈ x.cs, c.f2.size ≤ 140737488355328) :
    Calls Tryd.prog 24 #[v] w fun e w' => e = .returned (.bool (longL x)) ∧ Below w.heap.size w w' := by
  have hu38 := Tryd.underlying38
  have hu71 := Tryd.underlying71
  obtain ⟨_, _, rfl, ⟨A1, c1, rfl, h1, hc1⟩, ⟨A3, c3, rfl, h3, hc3⟩⟩ := hx
  have HK3 := Aside0.mk h3
  have F0 := heap_alloc_new w (.cells #[.int .i64 x.q, .slice A1 x.ls.length c1, .int .i64 x.k, .slice A3 x.cs.length c3] 38)
  have FB := below_alloc (Below.refl w.heap.size w) (.cells #[.int .i64 x.q, .slice A1 x.ls.length c1, .int .i64 x.k, .slice A3 x.cs.length c3] 38)
  have HOK := Aside0.mk hok
  clear h1 h3 hok
  by_cases k1 : 20000 < x.cs.length
  · have d1 : decide (20000 < (x.cs.length : Int)) = true := decide_eq_true (by omega)
    have HR := Aside0.mk (show longL x = true by unfold longL; rw [decide_eq_true k1]; rfl)
    clear k1 F0
    go_enter Tryd.func24, Tryd.ntmps24
    go_wp2
    go_ret
    exact ⟨by rw [HR.out]; rfl, FB⟩
  · have d1 : decide (20000 < (x.cs.length : Int)) = false := decide_eq_false (by omega)
    by_cases k2 : 1000 < x.ls.length
    · have d2 : decide (1000 < (x.ls.length : Int)) = true := decide_eq_true (by omega)
      have HR := Aside0.mk (show longL x = true by unfold longL; rw [decide_eq_true k2, Bool.true_or, Bool.or_true])
      clear k1 k2 F0
      go_enter Tryd.func24, Tryd.ntmps24
      go_wp2
      go_ret
      exact ⟨by rw [HR.out]; rfl, FB⟩
    · have d2 : decide (1000 < (x.ls.length : Int)) = false := decide_eq_false (by omega)
      have HL := Aside0.mk (show x.cs.length ≤ 20000 ∧ x.ls.length ≤ 1000 by omega)
      have hlen : x.cs.length ≤ 20000 := by omega
      have HR := Aside0.mk (show longL x = decide (200000 < hrefs x.cs) by unfold longL; rw [decide_eq_false k1, decide_eq_false k2]; rfl)
      clear k1 k2
      go_enter Tryd.func24, Tryd.ntmps24
      go_wp2
      generalize w.alloc (.cells #[.int .i64 x.q, .slice A1 x.ls.length c1, .int .i64 x.k, .slice A3 x.cs.length c3] 38) = W0 at F0 FB ⊢
      have c3' : W0.cell? ⟨w.heap.size, 3, none⟩ = some (.slice A3 x.cs.length c3) := (blk_cell F0 3).trans rfl
      have HFB := Aside0.mk FB
      clear F0 FB
      go_loopg [3, 4] (x.cs.length + 1) (fun g v3 v4 w' => ∃ (i n : Nat), v3 = .int .i64 (n : Int) ∧ v4 = .int .i64 (i : Int) ∧ w' = W0 ∧ i + g = x.cs.length + 1 ∧ i ≤ x.cs.length ∧ Aside0 (n = hrefs (x.cs.take i)))
      case atStart => exact ⟨0, 0, rfl, rfl, rfl, by omega, Nat.zero_le _, ⟨rfl⟩⟩
      case round =>
        obtain ⟨i, n, rfl, rfl, rfl, hg, hi, HI⟩ := hrel
        by_cases hlt : i < x.cs.length
        · have e1 : decide ((i : Int) < (x.cs.length : Int)) = true := decide_eq_true (by omega)
          by_cases hn2 : n ≤ 200000
          · have e2 : decide ((n : Int) ≤ 200000) = true := decide_eq_true (by omega)
            obtain ⟨ad, e, y0, y1, y2⟩ := at_T71 HK3.out (i : Int) (by omega) (by omega)
            cases e
            replace y2 := (HFB.out.cell (World.block_lt_of_cell? w _ y2)).trans y2
            clear y0 y1
            rw [Int.toNat_natCast] at y2
            have hm : rd_T71 x.cs (i : Int) ∈ x.cs := List.mem_of_getElem? (rd_at_ hlt)
            have hs := HOK.out _ hm
            have HA := Aside0.mk (rd_at_ (xs := x.cs) hlt)
            generalize rd_T71 x.cs (i : Int) = c at y2 hs HA
            clear hm
            obtain ⟨g', rfl⟩ : ∃ g', gk = g' + 1 := ⟨gk - 1, by omega⟩
            have w1 : IntKind.i64.wrap ((n : Int) + (c.f2.size : Int)) = ((n + c.f2.size : Nat) : Int) := by rw [i64_w]; unfold wrap64; omega
            have w2 : IntKind.i64.wrap ((i : Int) + 1) = ((i + 1 : Nat) : Int) := by rw [i64_w]; unfold wrap64; omega
            go_wp2
            go_roundg g'
            case measure => omega
            case rel => exact ⟨i + 1, n + c.f2.size, by first | rfl | (simp; done), by first | rfl | (simp; done), rfl, by omega, by omega, ⟨by rw [hrefs_step HA.out, ← HI.out]⟩⟩
          · have e2 : decide ((n : Int) ≤ 200000) = false := decide_eq_false (by omega)
            have e3 : decide (200000 < (n : Int)) = true := decide_eq_true (by omega)
            have HT := Aside0.mk (show longL x = true by rw [HR.out]; exact decide_eq_true (by have := hrefs_take x.cs i; have := HI.out; omega))
            clear hn2
            go_wp2
            go_ret
            exact ⟨by rw [HT.out]; rfl, HFB.out⟩
        · have e1 : decide ((i : Int) < (x.cs.length : Int)) = false := decide_eq_false (by omega)
          obtain rfl : i = x.cs.length := by omega
          by_cases hn2 : n ≤ 200000
          · have e3 : decide (200000 < (n : Int)) = false := decide_eq_false (by omega)
            have HT := Aside0.mk (show longL x = false by rw [HR.out]; exact decide_eq_false (by have := HI.out; rw [List.take_length] at this; omega))
            clear hn2
            go_wp2
            go_ret
            exact ⟨by rw [HT.out]; rfl, HFB.out⟩
          · have e3 : decide (200000 < (n : Int)) = true := decide_eq_true (by omega)
            have HT := Aside0.mk (show longL x = true by rw [HR.out]; exact decide_eq_true (by have := HI.out; rw [List.take_length] at this; omega))
            clear hn2
            go_wp2
            go_ret
            exact ⟨by rw [HT.out]; rfl, HFB.out⟩
end Go.Proofs.YtgdpknmffohhaaaDoor.Pl

/- The reference's target, its loops. -/
namespace Go.Proofs.YtgdpknmffohhaaaDoor.Pl
open Go.RowKit Go.Lib Go.Proofs.YtgdpknmffohhaaaDoorW.PrintWords Go.Proofs.YtgdpknmffohhaaaDoorW.PrintLast Go.Proofs.YtgdpknmffohhaaaDoorW.PrintMore
set_option linter.unusedVariables false
def wordS_ : ByteArray := ⟨#[106, 97, 118, 97, 115, 99, 114, 105, 112, 116]⟩
theorem wsize_ : wordS_.size = 10 := rfl
theorem bt_list_ (s : ByteArray) (i : Nat) (h : i < s.data.toList.length) : bt s (i : Int) = ((s.data.toList[i]'h).toNat : Int) := by
  have h' : i < s.size := by rw [← Array.size_eq_length_toList] at h; exact h
  rw [← bt_at s i (by rw [Int.toNat_natCast]; exact h')]
  simp only [Int.toNat_natCast, Array.getElem_toList]
  rfl
theorem jword_ (i : Nat) (h : i < 10) : bt wordS_ (i : Int) = ((wordJ_[i]'h).toNat : Int) := bt_list_ wordS_ i h
theorem cmp_loop_ (s : ByteArray) (n : Nat) (hs : s.size ≤ 70368744177664) (hn : n = (twC_ s.data.toList).length) (h10 : n = 10) : ∀ (m i : Nat), n - i = m → i ≤ n →
    Ev (fun k => quillworkref03_Target.l1 k s wordS_ (n : Int) (i : Int)) (!(((twC_ s.data.toList).drop i).map lowb_ == wordJ_.drop i)) := by
  have hle := twC_le_ s.data.toList
  have hsz : s.data.toList.length = s.size := (Lib.size_eq s).symm
  intro m
  induction m with
  | zero =>
    intro i hm hi
    refine Ev.step (f := fun _ => some _) (fun k => ?_) (Ev.now _)
    simp only [quillworkref03_Target.l1]
    rw [if_neg (by omega), List.drop_eq_nil_of_le (by omega), List.drop_eq_nil_of_le (by show 10 ≤ i; omega)]
    rfl
  | succ m ih =>
    intro i hm hi
    have e3 : wrap64 ((i : Int) + 1) = ((i + 1 : Nat) : Int) := by rw [w64s_ _ (by omega)]; omega
    have hil : i < (twC_ s.data.toList).length := by omega
    have hj : i < wordJ_.length := by show i < 10; omega
    have hg : (twC_ s.data.toList)[i]'hil = s.data.toList[i]'(by omega) := (List.takeWhile_prefix _).getElem hil
    have hb := bt_list_ s i (by omega)
    have hw := jword_ i (by omega)
    rw [← hg] at hb
    have hd : (((twC_ s.data.toList).drop i).map lowb_ == wordJ_.drop i) = ((lowb_ ((twC_ s.data.toList)[i]'hil) == wordJ_[i]'hj) && (((twC_ s.data.toList).drop (i + 1)).map lowb_ == wordJ_.drop (i + 1))) := by
      rw [List.drop_eq_getElem_cons hil, List.drop_eq_getElem_cons hj, List.map_cons]
      rfl
    rw [hd]
    have ihh := ih (i + 1) (by omega) (by omega)
    generalize (twC_ s.data.toList)[i]'hil = b at hb ⊢
    generalize hc : wordJ_[i]'hj = c at hw ⊢
    have hb256 := b.toNat_lt
    have hlow : ((lowb_ b).toNat : Int) = if 65 ≤ b.toNat ∧ b.toNat ≤ 90 then ((b.toNat : Int) + 32) % 256 else (b.toNat : Int) := by
      unfold lowb_
      split
      · rw [UInt8.toNat_add]
        simp
      · rfl
    have heq : (lowb_ b == c) = decide (((lowb_ b).toNat : Int) = (c.toNat : Int)) := by
      rw [Bool.eq_iff_iff, beq_iff_eq, decide_eq_true_eq, ← UInt8.toNat_inj]
      omega
    rw [heq, hlow]
    refine Ev.step (f := fun k => quillworkref03_Target.j4 k s wordS_ (n : Int) (i : Int) (b.toNat : Int) (decide (65 ≤ b.toNat ∧ b.toNat ≤ 90))) (fun k => ?_) ?_
    · simp only [quillworkref03_Target.l1]
      rw [if_pos (by omega), if_pos (by omega), if_pos (by omega), hb]
      by_cases h65 : 65 ≤ b.toNat
      · rw [if_pos (by omega)]
        congr 1
        rw [decide_eq_decide]
        omega
      · rw [if_neg (by omega), decide_eq_false (by omega)]
    · by_cases hr : 65 ≤ b.toNat ∧ b.toNat ≤ 90
      · rw [if_pos hr, decide_eq_true hr]
        by_cases he : ((b.toNat : Int) + 32) % 256 = (c.toNat : Int)
        · rw [decide_eq_true he, Bool.true_and]
          refine Ev.step (fun k => ?_) ihh
          simp only [quillworkref03_Target.j4]
          rw [if_pos trivial, if_pos (by omega), if_pos (show (i : Int) < (wordS_.size : Int) by rw [wsize_]; omega), hw, if_pos he, e3]
        · rw [decide_eq_false he, Bool.false_and]
          refine Ev.step (f := fun _ => some _) (fun k => ?_) (Ev.now _)
          simp only [quillworkref03_Target.j4]
          rw [if_pos trivial, if_pos (by omega), if_pos (show (i : Int) < (wordS_.size : Int) by rw [wsize_]; omega), hw, if_neg he]
          rfl
      · rw [if_neg hr, decide_eq_false hr]
        by_cases he : (b.toNat : Int) = (c.toNat : Int)
        · rw [decide_eq_true he, Bool.true_and]
          refine Ev.step (fun k => ?_) ihh
          simp only [quillworkref03_Target.j4]
          rw [if_neg (by decide), if_pos (by omega), if_pos (show (i : Int) < (wordS_.size : Int) by rw [wsize_]; omega), hw, if_pos he, e3]
        · rw [decide_eq_false he, Bool.false_and]
          refine Ev.step (f := fun _ => some _) (fun k => ?_) (Ev.now _)
          simp only [quillworkref03_Target.j4]
          rw [if_neg (by decide), if_pos (by omega), if_pos (show (i : Int) < (wordS_.size : Int) by rw [wsize_]; omega), hw, if_neg he]
          rfl
theorem end_loop_ (s : ByteArray) (n : Nat) (hs : s.size ≤ 70368744177664) (hn : n = (twC_ s.data.toList).length) {R : Bool} (hj : Ev (fun k => quillworkref03_Target.j2 k s wordS_ (n : Int)) R) : ∀ (m i : Nat), n - i = m → i ≤ n → Ev (fun k => quillworkref03_Target.l0 k s wordS_ (i : Int)) R := by
  have hle := twC_le_ s.data.toList
  have hsz : s.data.toList.length = s.size := (Lib.size_eq s).symm
  intro m
  induction m with
  | zero =>
    intro i hm hi
    obtain rfl : i = n := by omega
    refine Ev.step (fun k => ?_) hj
    simp only [quillworkref03_Target.l0]
    by_cases he : i < s.size
    · have hb := bt_list_ s i (by omega)
      have h58 : s.data.toList[i]'(by omega) = 58 := by
        have h1 := List.head_dropWhile_not (p := fun b : UInt8 => b != 58) (l := s.data.toList)
        have h2 : s.data.toList.dropWhile (fun b => b != 58) = s.data.toList.drop i := by
          have := List.takeWhile_append_dropWhile (p := fun b : UInt8 => b != 58) (l := s.data.toList)
          have h3 : s.data.toList = twC_ s.data.toList ++ s.data.toList.dropWhile (fun b => b != 58) := this.symm
          conv => rhs; rw [h3]
          rw [hn, List.drop_left]
        rw [h2] at h1
        have h4 := h1 (by intro e; have := congrArg List.length e; rw [List.length_drop] at this; simp at this; omega)
        rw [List.head_drop] at h4
        simpa using h4
      rw [if_pos (by omega), if_pos (by omega), if_pos (by rw [hb, h58]; rfl)]
    · rw [if_neg (by omega)]
  | succ m ih =>
    intro i hm hi
    have e3 : wrap64 ((i : Int) + 1) = ((i + 1 : Nat) : Int) := by rw [w64s_ _ (by omega)]; omega
    have hil : i < (twC_ s.data.toList).length := by omega
    have hg : (twC_ s.data.toList)[i]'hil = s.data.toList[i]'(by omega) := (List.takeWhile_prefix _).getElem hil
    have hb := bt_list_ s i (by omega)
    rw [← hg] at hb
    have hne : (twC_ s.data.toList)[i]'hil ≠ 58 := by
      have := List.all_eq_true.1 (List.all_takeWhile (p := fun b : UInt8 => b != 58) (l := s.data.toList)) _ (List.getElem_mem hil)
      simpa using this
    refine Ev.step (fun k => ?_) (ih (i + 1) (by omega) (by omega))
    simp only [quillworkref03_Target.l0]
    rw [if_pos (by omega), if_pos (by omega), if_neg (by rw [hb]; intro e; apply hne; apply UInt8.toNat_inj.1; show _ = 58; omega), e3]
theorem ref_script_ (s : ByteArray) (hs : s.size ≤ 70368744177664) : Ev (fun k => quillworkref03_Target.j0 k s false) (!script_ s) := by
  refine Ev.step (fun k => ?_) (end_loop_ s _ hs rfl (R := !script_ s) ?_ _ 0 rfl (Nat.zero_le _))
  · simp only [quillworkref03_Target.j0]
    rw [if_neg (by decide)]
    rfl
  · rw [script_is_]
    by_cases h : (twC_ s.data.toList).length = 10
    · refine Ev.step (fun k => ?_) (cmp_loop_ s _ hs rfl h _ 0 rfl (Nat.zero_le _))
      simp only [quillworkref03_Target.j2]
      rw [if_pos (show ((twC_ s.data.toList).length : Int) = (wordS_.size : Int) by rw [wsize_]; omega)]
      rfl
    · have hb : ((twC_ s.data.toList).map lowb_ == wordJ_) = false := beq_eq_false_iff_ne.2 (fun e => h (by have := congrArg List.length e; rw [List.length_map] at this; exact this))
      rw [hb]
      refine Ev.step (f := fun _ => some _) (fun k => ?_) (Ev.now _)
      simp only [quillworkref03_Target.j2]
      rw [if_neg (show ¬ ((twC_ s.data.toList).length : Int) = (wordS_.size : Int) by rw [wsize_]; omega)]
      rfl
end Go.Proofs.YtgdpknmffohhaaaDoor.Pl

/- lines.Own: a line in memory of its own. -/
namespace Go.Proofs.YtgdpknmffohhaaaDoor.Pl
open Go.RowKit Go.Lib Go.Proofs.YtgdpknmffohhaaaDoorW.PrintWords Go.Proofs.YtgdpknmffohhaaaDoorW.PrintLast Go.Proofs.YtgdpknmffohhaaaDoorW.PrintMore
set_option linter.unusedVariables false
set_option maxRecDepth 100000 in
set_option maxHeartbeats 4000000 in
theorem own_calls_ (x : Ln) (v : Value) (w : World) (hx : RdL w v x) (hz : Sz x) :
    Calls Tryd.prog 39 #[v] w fun e w' => ∃ v1 v3, e = .returned (.agg #[.int .i64 x.q, v1, .int .i64 x.k, v3]) ∧ Kd.R (Kd.int .i64) 3 w' w.heap.size (fun _ => True) v1 x.ls ∧ Kd.R k71 71 w' w.heap.size (fun _ => True) v3 x.cs ∧ Below w.heap.size w w' := by
  have hu38 := Tryd.underlying38
  obtain ⟨_, _, rfl, ⟨A1, c1, rfl, h1, hc1⟩, ⟨A3, c3, rfl, h3, hc3⟩⟩ := hx
  have HF1 := Aside0.mk (show slices_Clone_int.f x.ls = some x.ls by unfold slices_Clone_int.f; rw [if_pos (by have := hz.1; omega)])
  have HF3 := Aside0.mk (show slices_Clone_Cell.f x.cs = some x.cs by unfold slices_Clone_Cell.f; rw [if_pos (by have := hz.2.1; omega)])
  have HC1 := Aside0.mk hc1
  have HC3 := Aside0.mk hc3
  have HK1 := Aside0.mk h1
  have HK3 := Aside0.mk h3
  clear h1 h3 hc1 hc3 hz
  go_enter Tryd.func39, Tryd.ntmps39
  go_wp2
  obtain ⟨F1, F2, F3⟩ := two_boxes_ w (.cells #[.int .i64 x.q, .slice A1 x.ls.length c1, .int .i64 x.k, .slice A3 x.cs.length c3] 38) (.cells #[.int .i64 0, .slice none 0 0, .int .i64 0, .slice none 0 0] 38)
  generalize (w.alloc (.cells #[.int .i64 x.q, .slice A1 x.ls.length c1, .int .i64 x.k, .slice A3 x.cs.length c3] 38)).alloc (.cells #[.int .i64 0, .slice none 0 0, .int .i64 0, .slice none 0 0] 38) = W0 at F1 F2 F3 ⊢
  obtain ⟨b, hb⟩ : ∃ b, w.heap.size = b := ⟨_, rfl⟩
  have g1 : W0.cell? ⟨w.heap.size, 1, none⟩ = some (.slice A1 x.ls.length c1) := (blk_cell F1 1).trans rfl
  have g3 : W0.cell? ⟨w.heap.size, 3, none⟩ = some (.slice A3 x.cs.length c3) := (blk_cell F1 3).trans rfl
  have H1 := Aside0.mk F1
  have H2 := Aside0.mk F2
  have H3 := Aside0.mk F3
  clear F1 F2 F3 hb
  go_region_with (first
    | (go_at_call 86; go_loud (refine (slices_Clone_int.calls _ _ _ _ _ (Kd.C_below HK1.out (below_drew1 H3.out)) HC1.out HF1.out).mono ?_; rintro e w1 ⟨u1, rfl, ho, hb⟩; obtain ⟨B1, d1, rfl⟩ := Kd.R_slice ho; have HO1 := Aside0.mk ho; have HB1 := Aside0.mk (below_step (below_drew1 (Below.refl _ W0)) hb); have g3' : w1.cell? ⟨w.heap.size, 3, none⟩ = some (.slice A3 x.cs.length c3) := (hb.cell (World.block_lt_of_cell? W0.drew _ g3)).trans g3; clear ho hb))
    | (go_at_call 87; refine (slices_Clone_Cell.calls _ _ _ _ _ (Kd.C_below HK3.out (below_step H3.out HB1.out)) HC3.out HF3.out).mono ?_; rintro e w2 ⟨u3, rfl, ho, hb⟩; obtain ⟨B3, d3, rfl⟩ := Kd.R_slice ho; have HO3 := Aside0.mk ho; have HB2 := Aside0.mk hb; have fb := blk_below (blk_below H1.out HB1.out) hb; have f1 := blk_frozen fb 1; have f3 := blk_frozen fb 3; have k1 : w2.cell? ⟨w.heap.size, 1, none⟩ = some (.slice A1 x.ls.length c1) := (blk_cell fb 1).trans rfl; have k3 : w2.cell? ⟨w.heap.size, 3, none⟩ = some (.slice A3 x.cs.length c3) := (blk_cell fb 3).trans rfl; have FB := Aside0.mk fb; clear ho hb fb))
  all_goals
    have P1 : ((w2.setCell ⟨w.heap.size, 1, none⟩ (.slice B1 x.ls.length d1)).setCell ⟨w.heap.size, 3, none⟩ (.slice B3 x.cs.length d3)).heap[w.heap.size]? = some (.cells #[.int .i64 x.q, .slice B1 x.ls.length d1, .int .i64 x.k, .slice B3 x.cs.length d3] 38 (0, 0)) := blk_put (blk_put FB.out 1 _ rfl) 3 _ rfl
    have P2 : ((w2.setCell ⟨w.heap.size, 1, none⟩ (.slice B1 x.ls.length d1)).setCell ⟨w.heap.size, 3, none⟩ (.slice B3 x.cs.length d3)).heap[w.heap.size + 1]? = some (.cells #[.int .i64 0, .slice none 0 0, .int .i64 0, .slice none 0 0] 38 (0, 0)) := blk_off_ (blk_off_ (blk_below (blk_below H2.out HB1.out) HB2.out) (by omega)) (by omega)
    have PO1 := R_put_ (R_put_ (Kd.R_lower (Kd.R_below HO1.out HB2.out) (below_size (below_drew1 H3.out))) FB.out (by decide) 1 (.slice B1 x.ls.length d1)) (blk_put FB.out 1 _ rfl) (by decide) 3 (.slice B3 x.cs.length d3)
    have PO3 := R_put_ (R_put_ (Kd.R_lower HO3.out (below_size (below_step H3.out HB1.out))) FB.out (by decide) 1 (.slice B1 x.ls.length d1)) (blk_put FB.out 1 _ rfl) (by decide) 3 (.slice B3 x.cs.length d3)
    have PB := below_set (j := 3) (v := .slice B3 x.cs.length d3) (below_set (j := 1) (v := .slice B1 x.ls.length d1) (below_step (below_step H3.out HB1.out) HB2.out) (Nat.le_refl _)) (Nat.le_refl _)
    generalize (w2.setCell ⟨w.heap.size, 1, none⟩ (.slice B1 x.ls.length d1)).setCell ⟨w.heap.size, 3, none⟩ (.slice B3 x.cs.length d3) = W3 at P1 P2 PO1 PO3 PB ⊢
    have a0 : W3.cell? ⟨w.heap.size, 0, none⟩ = some (.int .i64 x.q) := (blk_cell P1 0).trans rfl
    have a1 : W3.cell? ⟨w.heap.size, 1, none⟩ = some (.slice B1 x.ls.length d1) := (blk_cell P1 1).trans rfl
    have a2 : W3.cell? ⟨w.heap.size, 2, none⟩ = some (.int .i64 x.k) := (blk_cell P1 2).trans rfl
    have a3 : W3.cell? ⟨w.heap.size, 3, none⟩ = some (.slice B3 x.cs.length d3) := (blk_cell P1 3).trans rfl
    have b0 : W3.cell? ⟨w.heap.size + 1, 0, none⟩ = some (.int .i64 0) := (blk_cell P2 0).trans rfl
    have b1 : W3.cell? ⟨w.heap.size + 1, 1, none⟩ = some (.slice none 0 0) := (blk_cell P2 1).trans rfl
    have b2 : W3.cell? ⟨w.heap.size + 1, 2, none⟩ = some (.int .i64 0) := (blk_cell P2 2).trans rfl
    have b3 : W3.cell? ⟨w.heap.size + 1, 3, none⟩ = some (.slice none 0 0) := (blk_cell P2 3).trans rfl
    have e0 := blk_frozen P2 0
    have e1 := blk_frozen P2 1
    have e2 := blk_frozen P2 2
    have e3 := blk_frozen P2 3
    have Q2 := Aside0.mk P2
    have QO1 := Aside0.mk PO1
    have QO3 := Aside0.mk PO3
    have QB := Aside0.mk PB
    clear P1 P2 PO1 PO3 PB f1 f3 k1 k3 g1 g3 HO1 HO3 FB HB1 HB2
    go_wp2
    refine bodyPost_ret (results_cell_row rfl _ _ (w.heap.size + 1) 38 #[.int .i64 x.q, .slice B1 x.ls.length d1, .int .i64 x.k, .slice B3 x.cs.length d3] (0, 0) _ rfl (put4_blk Q2.out) Tryd.underlying38 rfl (by kernel_rfl)) rfl ?_
    exact ⟨_, _, rfl, put4_R QO1.out Q2.out (by decide), put4_R QO3.out Q2.out (by decide), put4_below QB.out (Nat.le_succ _)⟩
end Go.Proofs.YtgdpknmffohhaaaDoor.Pl

/- slices.ContainsFunc over whole numbers; lines.May. -/
namespace Go.Proofs.YtgdpknmffohhaaaDoor.Pl
open Go.RowKit Go.Lib Go.Proofs.YtgdpknmffohhaaaDoorW.PrintWords Go.Proofs.YtgdpknmffohhaaaDoorW.PrintLast Go.Proofs.YtgdpknmffohhaaaDoorW.PrintMore
set_option linter.unusedVariables false
def argI_ (x : Int) : Value := .int .i64 x
theorem atI_ {w : World} {A : Option Addr} {n : Nat} {xs : List Int} (h : Kd.C (Kd.int .i64) w A n xs) (i : Int) (h0 : 0 ≤ i) (h1 : i < n) : ∃ ad, A = some ad ∧ w.cell? (ad.add i.toNat) = some (.int .i64 (rd xs i)) := by
  obtain ⟨ad, c, e, _, hK, hc0⟩ := Kd.C_get h 0 i h0 h1
  have hc : ∀ j u, c[j]? = some u → w.cell? (ad.add (i.toNat * 1 + j)) = some u := hc0
  obtain rfl : c = [.int .i64 (rd xs i)] := hK
  have := hc 0 _ rfl
  rw [Nat.mul_one, Nat.add_zero] at this
  exact ⟨ad, e, this⟩
theorem rdI_at_ {xs : List Int} {k : Nat} (hk : k < xs.length) : xs[k]? = some (rd xs (k : Int)) := by
  unfold rd
  rw [Int.toNat_natCast, List.getD_eq_getElem?_getD, List.getElem?_eq_getElem hk]
  rfl
set_option maxHeartbeats 4000000 in
theorem indexI_ (A0 : Option Addr) (c0 : Nat) (l0 : List Int) (g : Nat) (lb : Array Value) (p : Int → Bool) (w : World) (hr0 : Kd.C (Kd.int .i64) w A0 l0.length l0) (hc0 : l0.length ≤ c0) (eg : ∀ args w, (callFunc g args).run Tryd.prog w = .ok (.enter g args) w)
    (hf : Tells_ argI_ w g lb p l0) : Calls Tryd.prog 123 #[.slice A0 l0.length c0, .func (.func g) #[] lb] w fun e w' => (∃ i : Int, e = .returned (.int .i64 i) ∧ decide (0 ≤ i) = l0.any p) ∧ Below w.heap.size w w' := by
  have HR0 := Aside0.mk hr0
  have HF := Aside0.mk hf
  have HB := Aside0.mk (Below.refl w.heap.size w)
  have hlen : l0.length ≤ 9223372036854775807 := hr0.2.1
  clear hr0 hf
  go_enter Tryd.func123, Tryd.ntmps123
  go_wp2
  go_loopw [8] (fun v wr => ∃ k : Nat, v = .int .i64 (k : Int) ∧ k ≤ l0.length ∧ Aside0 (∀ j, j < k → p (rd l0 (j : Int)) = false) ∧ Aside0 (Below w.heap.size w wr)) (fun v _ => l0.length - (intOf v).toNat)
  case atStart => exact ⟨0, rfl, Nat.zero_le _, ⟨fun j hj => absurd hj (Nat.not_lt_zero _)⟩, HB⟩
  case round =>
    clear HB
    obtain ⟨k, rfl, hk, HN, HB⟩ := hrel
    by_cases hlt : k < l0.length
    · obtain ⟨ad, e, h0⟩ := atI_ HR0.out (k : Int) (by omega) (by omega)
      cases e
      replace h0 := (HB.out.cell (World.block_lt_of_cell? w _ h0)).trans h0
      rw [Int.toNat_natCast] at h0
      have hm : rd l0 (k : Int) ∈ l0 := List.mem_of_getElem? (rdI_at_ hlt)
      generalize hx : rd l0 (k : Int) = x at h0 hm
      have HF1 := Aside0.mk (HF.out x hm)
      clear hm
      cases hp : p x with
      | true =>
        have HY := Aside0.mk (show l0.any p = true from List.any_eq_true.2 ⟨x, by rw [← hx]; exact List.mem_of_getElem? (rdI_at_ hlt), hp⟩)
        go_wp2_with (go_at_fn g; refine (HF1.out _ HB.out).mono ?_; rw [hp]; rintro e w' ⟨rfl, hb⟩; have HB' := Aside0.mk hb; clear hb)
        go_ret
        exact ⟨⟨(k : Int), rfl, by rw [HY.out, decide_eq_true (by omega)]⟩, HB.out.trans (HB'.out.mono HB.out.size)⟩
      | false =>
        go_wp2_with (go_at_fn g; refine (HF1.out _ HB.out).mono ?_; rw [hp]; rintro e w' ⟨rfl, hb⟩; have HB' := Aside0.mk hb; clear hb)
        go_roundw
        case rel => exact ⟨k + 1, by go_num, by omega, ⟨fun j hj => by
          by_cases h : j = k
          · rw [h, hx]; exact hp
          · exact HN.out j (by omega)⟩, ⟨HB.out.trans (HB'.out.mono HB.out.size)⟩⟩
        case measure => simp [intOf]; omega
    · have HY := Aside0.mk (show l0.any p = false by
        rw [List.any_eq_false]
        intro y hy
        obtain ⟨j, hj, rfl⟩ := List.getElem_of_mem hy
        have := HN.out j (by omega)
        have e2 := rdI_at_ (xs := l0) hj
        rw [List.getElem?_eq_getElem hj] at e2
        have e3 := Option.some.inj e2
        rw [← e3] at this
        simpa using this)
      go_wp2
      go_ret
      exact ⟨⟨-1, rfl, by rw [HY.out]; rfl⟩, HB.out⟩
set_option maxHeartbeats 4000000 in
theorem containsI_ (A0 : Option Addr) (c0 : Nat) (l0 : List Int) (g : Nat) (lb : Array Value) (p : Int → Bool) (w : World) (hr0 : Kd.C (Kd.int .i64) w A0 l0.length l0) (hc0 : l0.length ≤ c0) (eg : ∀ args w, (callFunc g args).run Tryd.prog w = .ok (.enter g args) w)
    (hf : Tells_ argI_ w g lb p l0) : Calls Tryd.prog 83 #[.slice A0 l0.length c0, .func (.func g) #[] lb] w fun e w' => e = .returned (.bool (l0.any p)) ∧ Below w.heap.size w w' := by
  have HI := Aside0.mk (indexI_ A0 c0 l0 g lb p w hr0 hc0 eg hf)
  clear hr0 hf
  go_enter Tryd.func83, Tryd.ntmps83
  go_wp2_with (go_at_call 123; refine HI.out.mono ?_; rintro e w' ⟨⟨i, rfl, hi⟩, hb⟩; have HB := Aside0.mk hb; have HD := Aside0.mk hi; clear hb hi)
  go_ret
  exact ⟨by rw [HD.out]; rfl, HB.out⟩
set_option maxHeartbeats 4000000 in
theorem kindBad_calls_ (k : Int) (w : World) : Calls Tryd.prog 84 #[.int .i64 k] w fun e w' => e = .returned (.bool (kindBad_ k)) ∧ Below w.heap.size w w' := by
  by_cases h : k = 0
  · have h1 : (k != 0) = false := bne_eq_false_iff_eq.mpr h
    go_enter Tryd.func84, Tryd.ntmps84
    go_wp2
    go_ret
    exact ⟨by unfold kindBad_; rw [h1]; rfl, Below.refl _ _⟩
  · have h1 : (k != 0) = true := bne_iff_ne.mpr h
    go_enter Tryd.func84, Tryd.ntmps84
    go_wp2
    go_ret
    exact ⟨by unfold kindBad_; rw [h1]; rfl, Below.refl _ _⟩
theorem mayL_false {x : Ln} (h : ¬ (0 ≤ x.q ∧ x.q ≤ 6 ∧ x.ls.length ≤ 6 ∧ 0 ≤ x.k ∧ x.k ≤ 3 ∧ (x.ls.length = 0 ∨ x.k = 0))) : mayL x = false := by
  unfold mayL
  rw [decide_eq_false h]
  rfl
set_option maxRecDepth 100000 in
set_option maxHeartbeats 4000000 in
theorem may_calls_ (x : Ln) (v : Value) (w : World) (hx : RdL w v x) (hz : Sz x) (hG : Gl_ w) :
    Calls Tryd.prog 37 #[v] w fun e w' => e = .returned (.bool (mayL x)) ∧ Below w.heap.size w w' := by
  have hu38 := Tryd.underlying38
  obtain ⟨_, _, rfl, ⟨A1, c1, rfl, h1, hc1⟩, ⟨A3, c3, rfl, h3, hc3⟩⟩ := hx
  have HS := Aside0.mk hz.may
  have HC1 := Aside0.mk hc1
  have HC3 := Aside0.mk hc3
  have HK1 := Aside0.mk h1
  have HK3 := Aside0.mk h3
  have HG := Aside0.mk hG
  clear h1 h3 hc1 hc3 hz hG
  by_cases c1_ : x.q < 0
  · have d1 : decide (x.q < 0) = true := decide_eq_true c1_
    have HM := Aside0.mk (mayL_false (x := x) (by omega))
    clear c1_
    go_enter Tryd.func37, Tryd.ntmps37
    go_wp2
    go_ret
    exact ⟨by rw [HM.out]; rfl, below_alloc (Below.refl _ _) _⟩
  have d1 : decide (x.q < 0) = false := decide_eq_false c1_
  by_cases c2_ : 6 < x.q
  · have d2 : decide (6 < x.q) = true := decide_eq_true c2_
    have HM := Aside0.mk (mayL_false (x := x) (by omega))
    clear c1_ c2_
    go_enter Tryd.func37, Tryd.ntmps37
    go_wp2
    go_ret
    exact ⟨by rw [HM.out]; rfl, below_alloc (Below.refl _ _) _⟩
  have d2 : decide (6 < x.q) = false := decide_eq_false c2_
  by_cases c3_ : 6 < (x.ls.length : Int)
  · have d3 : decide (6 < (x.ls.length : Int)) = true := decide_eq_true c3_
    have HM := Aside0.mk (mayL_false (x := x) (by omega))
    clear c1_ c2_ c3_
    go_enter Tryd.func37, Tryd.ntmps37
    go_wp2
    go_ret
    exact ⟨by rw [HM.out]; rfl, below_alloc (Below.refl _ _) _⟩
  have d3 : decide (6 < (x.ls.length : Int)) = false := decide_eq_false c3_
  by_cases c4_ : x.k < 0
  · have d4 : decide (x.k < 0) = true := decide_eq_true c4_
    have HM := Aside0.mk (mayL_false (x := x) (by omega))
    clear c1_ c2_ c3_ c4_
    go_enter Tryd.func37, Tryd.ntmps37
    go_wp2
    go_ret
    exact ⟨by rw [HM.out]; rfl, below_alloc (Below.refl _ _) _⟩
  have d4 : decide (x.k < 0) = false := decide_eq_false c4_
  by_cases c5_ : 3 < x.k
  · have d5 : decide (3 < x.k) = true := decide_eq_true c5_
    have HM := Aside0.mk (mayL_false (x := x) (by omega))
    clear c1_ c2_ c3_ c4_ c5_
    go_enter Tryd.func37, Tryd.ntmps37
    go_wp2
    go_ret
    exact ⟨by rw [HM.out]; rfl, below_alloc (Below.refl _ _) _⟩
  have d5 : decide (3 < x.k) = false := decide_eq_false c5_
  have HR := Aside0.mk (fun (h : x.ls.length = 0 ∨ x.k = 0) => (show mayL x = (!(x.ls.any kindBad_) && !(x.cs.any bad_)) by
    unfold mayL
    rw [decide_eq_true (by omega)]
    rfl))
  have HN := Aside0.mk (fun (h : ¬ (x.ls.length = 0 ∨ x.k = 0)) => mayL_false (x := x) (by omega))
  clear c1_ c2_ c3_ c4_ c5_
  have HK := Aside0.mk (fun W (hW : Below w.heap.size w W) => containsI_ A1 c1 x.ls 84 #[] kindBad_ W (Kd.C_below HK1.out hW) HC1.out (enters_of Tryd.func84 (by kernel_rfl) rfl) (fun k _ W1 _ => kindBad_calls_ k W1))
  have HCM := Aside0.mk (fun W (hW : Below w.heap.size w W) => cells_May.calls A3 c3 x.cs _ W (Kd.C_below HK3.out hW) HC3.out HS.out (HG.out.below hW))
  clear HK1 HK3 HG HS
  have HEND : ∀ (hl : x.ls.length = 0 ∨ x.k = 0), Aside0 (mayL x = (!(x.ls.any kindBad_) && !(x.cs.any bad_))) := fun hl => ⟨HR.out hl⟩
  by_cases c6 : 0 < (x.ls.length : Int)
  · have d6 : decide (0 < x.ls.length) = true := decide_eq_true (by omega)
    by_cases c7 : x.k = 0
    · have d7 : (x.k != 0) = false := bne_eq_false_iff_eq.mpr c7
      have HX := HEND (.inr c7)
      clear c6 c7 HEND HR HN
      cases hb1 : x.ls.any kindBad_ with
      | true =>
        rw [hb1] at HK HX
        go_enter Tryd.func37, Tryd.ntmps37
        go_wp2_with (go_at_call 83; refine (HK.out _ (below_alloc (Below.refl _ _) _)).mono ?_; rintro e w1 ⟨rfl, hb⟩; have HB1 := Aside0.mk hb; clear hb)
        go_ret
        exact ⟨by rw [HX.out]; rfl, below_step (below_alloc (Below.refl _ _) _) HB1.out⟩
      | false =>
        rw [hb1] at HK HX
        have F1 := heap_alloc_new w (.cells #[.int .i64 x.q, .slice A1 x.ls.length c1, .int .i64 x.k, .slice A3 x.cs.length c3] 38)
        go_enter Tryd.func37, Tryd.ntmps37
        go_wp2_with (first | (go_at_call 83; refine (HK.out _ (below_alloc (Below.refl _ _) _)).mono ?_; rintro e w1 ⟨rfl, hb⟩; have g3 : w1.cell? ⟨w.heap.size, 3, none⟩ = some (.slice A3 x.cs.length c3) := (blk_cell (blk_below F1 hb) 3).trans rfl; have HB1 := Aside0.mk hb; clear hb) | (go_at_call 66; refine (HCM.out _ (below_step (below_alloc (Below.refl _ _) _) HB1.out)).mono ?_; rintro e w2 ⟨rfl, hb⟩; have HB2 := Aside0.mk hb; clear hb))
        go_ret
        exact ⟨by rw [HX.out]; rfl, below_step (below_step (below_alloc (Below.refl _ _) _) HB1.out) HB2.out⟩
    · have d7 : (x.k != 0) = true := bne_iff_ne.mpr c7
      have HM := Aside0.mk (HN.out (by omega))
      clear c6 c7 HEND HR HN
      go_enter Tryd.func37, Tryd.ntmps37
      go_wp2
      go_ret
      exact ⟨by rw [HM.out]; rfl, below_alloc (Below.refl _ _) _⟩
  · have d6 : decide (0 < x.ls.length) = false := decide_eq_false (by omega)
    have HX := HEND (.inl (by omega))
    clear c6 HEND HR HN
    cases hb1 : x.ls.any kindBad_ with
    | true =>
      rw [hb1] at HK HX
      go_enter Tryd.func37, Tryd.ntmps37
      go_wp2_with (go_at_call 83; refine (HK.out _ (below_alloc (Below.refl _ _) _)).mono ?_; rintro e w1 ⟨rfl, hb⟩; have HB1 := Aside0.mk hb; clear hb)
      go_ret
      exact ⟨by rw [HX.out]; rfl, below_step (below_alloc (Below.refl _ _) _) HB1.out⟩
    | false =>
      rw [hb1] at HK HX
      have F1 := heap_alloc_new w (.cells #[.int .i64 x.q, .slice A1 x.ls.length c1, .int .i64 x.k, .slice A3 x.cs.length c3] 38)
      go_enter Tryd.func37, Tryd.ntmps37
      go_wp2_with (first | (go_at_call 83; refine (HK.out _ (below_alloc (Below.refl _ _) _)).mono ?_; rintro e w1 ⟨rfl, hb⟩; have g3 : w1.cell? ⟨w.heap.size, 3, none⟩ = some (.slice A3 x.cs.length c3) := (blk_cell (blk_below F1 hb) 3).trans rfl; have HB1 := Aside0.mk hb; clear hb) | (go_at_call 66; refine (HCM.out _ (below_step (below_alloc (Below.refl _ _) _) HB1.out)).mono ?_; rintro e w2 ⟨rfl, hb⟩; have HB2 := Aside0.mk hb; clear hb))
      go_ret
      exact ⟨by rw [HX.out]; rfl, below_step (below_step (below_alloc (Below.refl _ _) _) HB1.out) HB2.out⟩
end Go.Proofs.YtgdpknmffohhaaaDoor.Pl

/- What turns a line: its last list, the closures, and lines.turned. -/
namespace Go.Proofs.YtgdpknmffohhaaaDoor.Pl
open Go.RowKit Go.Lib Go.Proofs.YtgdpknmffohhaaaDoorW.PrintWords Go.Proofs.YtgdpknmffohhaaaDoorW.PrintLast Go.Proofs.YtgdpknmffohhaaaDoorW.PrintMore
set_option linter.unusedVariables false
section
variable {P : Program}
theorem cut_hm_ (t e : TypeId) (kh km : IntKind) {i : TypeInfo} (ht : P.underlying t = some (.slice e)) (hi : P.info? e = some i) (A : Option Addr) (n c : Nat) (j : Int) (h0 : 0 ≤ j) (hm : j ≤ n) (hc : n ≤ c) :
    ∀ W : World, (Instr.slice t (.slice A n c) none (some (.int kh j)) (some (.int km j))).run P W = .ok (.slice A j.toNat j.toNat) W := by
  intro W
  have hel : P.elem t = e := by simp [Program.elem, ht]
  have hu : P.underlying t = some (.slice (P.elem t)) := by rw [hel]; exact ht
  have ha : (A.map fun x => x.add 0) = A := by cases A <;> simp [Addr.add]
  rw [run_slice_hm W t A n c hu kh km j j h0 (Int.le_refl _) (by omega), hel]
  simp [sizeOf, typeInfo, hi, sliced, Result.andThen, ha]
end
def lastF (ls : List Int) : Int := if ls.length = 0 then -1 else rd ls ((ls.length : Int) - 1)
theorem lastF_snoc (l : List Int) (a : Int) : lastF (l ++ [a]) = a := by
  unfold lastF rd
  rw [if_neg (by simp), List.length_append, List.length_singleton, show (((l.length + 1 : Nat) : Int) - 1).toNat = l.length by omega]
  simp
theorem infoI_ : ∃ i, Tryd.prog.info? 3 = some i ∧ i.size = 1 := by
  obtain ⟨i, hi, h⟩ := Option.map_eq_some_iff.1 info3
  simp only [Prod.mk.injEq] at h
  exact ⟨i, hi, h.2.1⟩
set_option maxRecDepth 100000 in
set_option maxHeartbeats 4000000 in
theorem last_calls_ (ls : List Int) (b : Nat) (v1 : Value) (w : World) (h1 : w.cell? ⟨b, 1, none⟩ = some v1) (hr : Rd (Kd.int .i64) w v1 ls) :
    Calls Tryd.prog 90 #[.pointer (some ⟨b, 0, none⟩)] w fun e w' => e = .returned (.int .i64 (lastF ls)) ∧ Drawn0 w w' := by
  have hu38 := Tryd.underlying38
  have hl := hr.len
  obtain ⟨A, c, rfl, hC, hc⟩ := hr
  by_cases h0 : ls.length = 0
  · have e0 : (ls.length == 0) = true := beq_iff_eq.mpr h0
    have E := Aside0.mk (show lastF ls = -1 by unfold lastF; rw [if_pos h0])
    clear hC
    go_enter Tryd.func90, Tryd.ntmps90
    go_wp2
    go_ret
    exact ⟨by rw [E.out]; rfl, ⟨⟨0, rfl⟩⟩⟩
  · obtain ⟨n, hn⟩ : ∃ n, ls.length = n + 1 := ⟨ls.length - 1, by omega⟩
    have E := Aside0.mk (show lastF ls = rd ls (n : Int) by unfold lastF; rw [if_neg h0, hn]; congr 1; omega)
    obtain ⟨ad, e1, g⟩ := atI_ hC (n : Int) (by omega) (by omega)
    rw [Int.toNat_natCast] at g
    cases e1
    rw [hn] at hl h1 hc
    clear hC h0
    have hw : IntKind.i64.wrap (((n + 1 : Nat) : Int) - 1) = (n : Int) := by rw [i64_w]; unfold wrap64; omega
    go_enter Tryd.func90, Tryd.ntmps90
    go_wp2
    go_quiet (fail)
    go_wp2
    go_ret
    exact ⟨by rw [E.out]; rfl, ⟨⟨nq, rfl⟩⟩⟩
/-- a line's box -/
def Box_ (W : World) (b : Nat) (q : Int) (v1 : Value) (k : Int) (v3 : Value) : Prop := W.heap[b]? = some (.cells #[.int .i64 q, v1, .int .i64 k, v3] 38 (0, 0))
theorem Box_.c0 {W : World} {b : Nat} {q k : Int} {v1 v3 : Value} (h : Box_ W b q v1 k v3) : W.cell? ⟨b, 0, none⟩ = some (.int .i64 q) := (blk_cell h 0).trans rfl
theorem Box_.c1 {W : World} {b : Nat} {q k : Int} {v1 v3 : Value} (h : Box_ W b q v1 k v3) : W.cell? ⟨b, 1, none⟩ = some v1 := (blk_cell h 1).trans rfl
theorem Box_.c2 {W : World} {b : Nat} {q k : Int} {v1 v3 : Value} (h : Box_ W b q v1 k v3) : W.cell? ⟨b, 2, none⟩ = some (.int .i64 k) := (blk_cell h 2).trans rfl
theorem Box_.c3 {W : World} {b : Nat} {q k : Int} {v1 v3 : Value} (h : Box_ W b q v1 k v3) : W.cell? ⟨b, 3, none⟩ = some v3 := (blk_cell h 3).trans rfl
/-- what a closure that turns a line has to do -/
def After_ (w0 : World) (b : Nat) (W : World) (v3 : Value) (r : Bool) (y : Ln) (e : Ending) (W' : World) : Prop :=
  ∃ u1, e = .returned (.bool r) ∧ Box_ W' b y.q u1 y.k v3 ∧ Wr (Kd.int .i64) 3 W' w0.heap.size u1 y.ls ∧ Wr k71 71 W' w0.heap.size v3 y.cs ∧ Below w0.heap.size w0 W' ∧
    ∀ o cells, o ≠ b → W.heap[o]? = some (.cells cells 38 (0, 0)) → W'.heap[o]? = some (.cells cells 38 (0, 0))
def Turns_ (w0 : World) (g : Nat) (lb : Array Value) (F : Ln → Bool × Ln) : Prop :=
  ∀ (x : Ln) (W : World) (b : Nat) (v1 v3 : Value), mayL x = true → Sz x → Box_ W b x.q v1 x.k v3 → Kd.R (Kd.int .i64) 3 W w0.heap.size (fun _ => True) v1 x.ls → Kd.R k71 71 W w0.heap.size (fun _ => True) v3 x.cs →
    w0.heap.size ≤ b → Below w0.heap.size w0 W → Calls Tryd.prog g (#[.pointer (some ⟨b, 0, none⟩)] ++ lb) W fun e W' => After_ w0 b W v3 (F x).1 (F x).2 e W'
def dropF (ls : List Int) : List Int := ls.take (ls.length - 1)
theorem Wr_shut_ {W : World} {base : Nat} {A : Option Addr} {c n : Nat} {ls : List Int} (h : Kd.R (Kd.int .i64) 3 W base (fun _ => True) (.slice A ls.length c) ls) (hn : n + 1 = ls.length) : Wr (Kd.int .i64) 3 W base (.slice A n n) (dropF ls) := by
  obtain ⟨_, h1, h2⟩ := Kd.R_reads' h
  have hl : (dropF ls).length = n := by unfold dropF; rw [List.length_take]; omega
  have h3 := Kd.C_take h2 (show ls.length - 1 ≤ ls.length by omega)
  refine ⟨A, n, by rw [hl], h3, by omega, fun hp => ?_⟩
  obtain ⟨g, cap, e1, h4, h5, cells, h6⟩ := Kd.R_form h (by omega)
  injection e1 with e2
  exact ⟨g, 0, cells, e2, h4, h6⟩
set_option maxRecDepth 100000 in
set_option maxHeartbeats 4000000 in
theorem lift_none_ (x : Ln) (b : Nat) (v1 v3 : Value) (w : World) (hb : Box_ w b x.q v1 x.k v3) (hr : Rd (Kd.int .i64) w v1 x.ls) (h0 : x.ls = []) :
    Calls Tryd.prog 92 #[.pointer (some ⟨b, 0, none⟩)] w fun e w' => e = .returned (.bool false) ∧ Drawn0 w w' := by
  have hu38 := Tryd.underlying38
  have HL := Aside0.mk (last_calls_ x.ls b v1 w hb.c1 hr)
  have hl : lastF x.ls = -1 := by rw [h0]; rfl
  rw [hl] at HL
  clear hr hl hb
  go_enter Tryd.func92, Tryd.ntmps92
  go_wp2_with (go_at_call 90; refine HL.out.mono ?_; rintro e w' ⟨rfl, ⟨nd, rfl⟩⟩)
  go_ret
  exact ⟨rfl, ⟨⟨nd, rfl⟩⟩⟩
set_option maxRecDepth 100000 in
set_option maxHeartbeats 4000000 in
theorem lift_some_ (x : Ln) (b n : Nat) (A : Option Addr) (c : Nat) (v3 : Value) (w : World) (hb : Box_ w b x.q (.slice A x.ls.length c) x.k v3) (hr : Rd (Kd.int .i64) w (.slice A x.ls.length c) x.ls) (hn : n + 1 = x.ls.length) (h0 : 0 ≤ lastF x.ls) :
    Calls Tryd.prog 92 #[.pointer (some ⟨b, 0, none⟩)] w fun e w' => e = .returned (.bool true) ∧ ∃ nd, w' = (w.drewN nd).setCell ⟨b, 1, none⟩ (.slice A n n) := by
  have hu38 := Tryd.underlying38
  have HL := Aside0.mk (last_calls_ x.ls b _ w hb.c1 hr)
  have hl := hr.len
  obtain ⟨A', c', e1, hC, hc⟩ := hr
  injection e1 with e2 _ e3
  subst e2
  subst e3
  obtain ⟨i, hi, _⟩ := infoI_
  have q := cut_hm_ (P := Tryd.prog) 35 3 .i64 .i64 Tryd.underlying35 hi A (n + 1) c (n : Int) (by omega) (by omega) (by omega)
  rw [Int.toNat_natCast] at q
  have hc1 := hb.c1
  have hf1 : w.frozen? ⟨b, 1, none⟩ = false := blk_frozen hb 1
  have d1 : decide (lastF x.ls < 0) = false := decide_eq_false (by omega)
  rw [← hn] at hc1 hl
  have hw : IntKind.i64.wrap (((n + 1 : Nat) : Int) - 1) = (n : Int) := by rw [i64_w]; unfold wrap64; omega
  clear hC hc hb h0 hn
  go_enter Tryd.func92, Tryd.ntmps92
  go_wp2_with (go_at_call 90; refine HL.out.mono ?_; rintro e w' ⟨rfl, ⟨nd, rfl⟩⟩)
  go_ret
  exact ⟨rfl, nd, rfl⟩
end Go.Proofs.YtgdpknmffohhaaaDoor.Pl

/- The closures that turn a line. -/
namespace Go.Proofs.YtgdpknmffohhaaaDoor.Pl
open Go.RowKit Go.Lib Go.Proofs.YtgdpknmffohhaaaDoorW.PrintWords Go.Proofs.YtgdpknmffohhaaaDoorW.PrintLast Go.Proofs.YtgdpknmffohhaaaDoorW.PrintMore
set_option linter.unusedVariables false
theorem mayL_parts {x : Ln} (h : mayL x = true) : (0 ≤ x.q ∧ x.q ≤ 6 ∧ x.ls.length ≤ 6 ∧ 0 ≤ x.k ∧ x.k ≤ 3 ∧ (x.ls.length = 0 ∨ x.k = 0)) ∧ (∀ k ∈ x.ls, k = 0 ∨ k = 1) ∧ ∀ c ∈ x.cs, bad_ c = false := by
  unfold mayL at h
  rw [Bool.and_eq_true, Bool.and_eq_true, decide_eq_true_eq] at h
  refine ⟨h.1, fun k hk => ?_, fun c hc => ?_⟩
  · have h2 := h.2.1
    rw [Bool.not_eq_true', List.any_eq_false] at h2
    have := h2 k hk
    unfold kindBad_ at this
    simp only [Bool.and_eq_true, bne_iff_ne, ne_eq] at this
    omega
  · have h2 := h.2.2
    rw [Bool.not_eq_true', List.any_eq_false] at h2
    simpa using h2 c hc
theorem snoc_of_ne {ls : List Int} (h : ls ≠ []) : ∃ l a, ls = l ++ [a] := ⟨ls.dropLast, ls.getLast h, (List.dropLast_concat_getLast h).symm⟩
theorem lastF_may {x : Ln} (h : mayL x = true) (h0 : x.ls ≠ []) : lastF x.ls = 0 ∨ lastF x.ls = 1 := by
  obtain ⟨l, a, e⟩ := snoc_of_ne h0
  rw [e, lastF_snoc]
  exact (mayL_parts h).2.1 a (by rw [e]; simp)
def indentF (x : Ln) : Bool × Ln := if x.ls = [] then (decide (x.q + 1 ≤ 6), { x with q := x.q + 1 }) else (decide ((x.ls.length : Int) + 1 ≤ 6), { x with ls := x.ls ++ [lastF x.ls] })
def outdentF (x : Ln) : Bool × Ln := if x.ls = [] then (decide (1 ≤ x.q), { x with q := x.q - 1 }) else (true, { x with ls := dropF x.ls })
def listF (kind : Int) (x : Ln) : Bool × Ln := if x.ls = [] then (true, { x with ls := [kind], k := 0 }) else (lastF x.ls != kind, { x with ls := x.ls.set (x.ls.length - 1) kind })
theorem grown_box_ {W w1 : World} {base : Nat} {v1 : Value} {ls : List Int} {o : Nat} {cells : Array Value} (hr : Kd.R (Kd.int .i64) 3 W base (fun _ => True) v1 ls) (hg : W.grownBy w1 v1.ownBlock) (h : W.heap[o]? = some (.cells cells 38 (0, 0))) : w1.heap[o]? = some (.cells cells 38 (0, 0)) :=
  blk_grown h hg (fun e => by
    obtain ⟨cs, hc⟩ := Kd.R_typed hr o e.symm
    rw [h] at hc
    injection hc with hc
    injection hc with _ hc
    exact absurd hc (by decide))
set_option maxRecDepth 100000 in
set_option maxHeartbeats 4000000 in
theorem indent_turns_ (w0 : World) : Turns_ w0 89 #[] indentF := by
  intro x W b v1 v3 hm hz hb hr1 hr3 hbb hB
  show Calls Tryd.prog 89 #[.pointer (some ⟨b, 0, none⟩)] W _
  have hu38 := Tryd.underlying38
  obtain ⟨A, c, rfl⟩ := Kd.R_slice hr1
  have HL := Aside0.mk (last_calls_ x.ls b _ W hb.c1 (Wr.of_R hr1).rd)
  have hmp := (mayL_parts hm).1
  unfold indentF
  by_cases h0 : x.ls = []
  · rw [if_pos h0]
    have hl : lastF x.ls = -1 := by rw [h0]; rfl
    rw [hl] at HL
    have hw : IntKind.i64.wrap (x.q + 1) = x.q + 1 := by rw [i64_w]; unfold wrap64; omega
    have c0 := hb.c0
    have f0 : W.frozen? ⟨b, 0, none⟩ = false := blk_frozen hb 0
    have HBX := Aside0.mk hb
    have H1 := Aside0.mk hr1
    have H3 := Aside0.mk hr3
    have HB := Aside0.mk hB
    clear hl hb hr1 hr3 hB hmp h0 hm hz
    go_enter Tryd.func89, Tryd.ntmps89
    go_wp2_with (go_at_call 90; refine HL.out.mono ?_; rintro e w' ⟨rfl, ⟨nd, rfl⟩⟩)
    go_ret
    refine ⟨_, rfl, blk_put (blk_drewN HBX.out nd) 0 _ rfl, Wr.of_R (R_put_ (Kd.R_drewN H1.out nd) (blk_drewN HBX.out nd) (by decide) 0 _), Wr.of_R (R_put_ (Kd.R_drewN H3.out nd) (blk_drewN HBX.out nd) (by decide) 0 _), below_set (pw_below_drewN HB.out nd) hbb, fun o cells hne ho => blk_off_ ho hne⟩
  · rw [if_neg h0]
    have hk := lastF_may hm h0
    have d1 : decide (lastF x.ls ≥ 0) = true := decide_eq_true (by omega)
    have HBX := Aside0.mk hb
    have H1 := Aside0.mk hr1
    have H3 := Aside0.mk hr3
    have HB := Aside0.mk hB
    have c1 := hb.c1
    have f1 : W.frozen? ⟨b, 1, none⟩ = false := blk_frozen hb 1
    have HZ := Aside0.mk (show x.ls.length ≤ 6 by omega)
    generalize lastF x.ls = kk at HL d1 ⊢
    clear hb hr1 hr3 hB hmp h0 hm hz hk
    go_enter Tryd.func89, Tryd.ntmps89
    go_wp2_with (first | (go_at_call 90; refine HL.out.mono ?_; rintro e w' ⟨rfl, ⟨nd, rfl⟩⟩) | ((with_reducible refine gate_builtin (b := .append) (xs := #[.tmp 12, .tmp 14]) rfl ?_); at_builtin; refine Kd.R_append (Kd.int .i64) (w0 := w0) w0.heap.size rfl (.tmp 12) (.tmp 14) 35 3 (.int .i64 0) 8 rfl Tryd.underlying35 info3 rfl (by decide) (by omega) (.slice A x.ls.length c) x.ls kk [.int .i64 kk] (fun _ => True) (fun _ => False) rfl rfl ?aP (fun _ hk => hk.elim) ?aF ?aO ?aB ?aS ?aL ?_; (case aP => rfl); (case aB => exact pw_below_drewN HB.out _); (case aF => exact (fun _ _ => trivial)); (case aO => exact Kd.R_drewN H1.out _); (case aS => exact HB.out.size); (case aL => have := HZ.out; omega); intro v1' w1 ho hbw hg hat; obtain ⟨A', c', rfl⟩ := Kd.R_slice ho; rw [List.length_append, List.length_singleton] at ho; have HO1 := Aside0.mk ho; have HB1 := Aside0.mk hbw; have HG := Aside0.mk hg; have fb := grown_box_ (Kd.R_drewN H1.out _) hg (blk_drewN HBX.out _); have c1' : w1.cell? ⟨b, 1, none⟩ = some (.slice A x.ls.length c) := (blk_cell fb 1).trans rfl; have f1' : w1.frozen? ⟨b, 1, none⟩ = false := blk_frozen fb 1; have FB := Aside0.mk fb; clear ho hbw hg hat fb))
    go_ret
    refine ⟨_, rfl, blk_put FB.out 1 _ rfl, Wr.of_R (R_put_ HO1.out FB.out (by decide) 1 _), Wr.of_R (R_put_ (Kd.R_over' (Kd.R_drewN H3.out nd) (Kd.R_typed (Kd.R_drewN H1.out nd)) (by decide) HG.out) FB.out (by decide) 1 _), below_set HB1.out hbb, fun o cells hne ho => blk_off_ (grown_box_ (Kd.R_drewN H1.out nd) HG.out ho) hne⟩
set_option maxRecDepth 100000 in
set_option maxHeartbeats 4000000 in
theorem outdent_turns_ (w0 : World) : Turns_ w0 91 #[] outdentF := by
  intro x W b v1 v3 hm hz hb hr1 hr3 hbb hB
  show Calls Tryd.prog 91 #[.pointer (some ⟨b, 0, none⟩)] W _
  have hu38 := Tryd.underlying38
  obtain ⟨A, c, rfl⟩ := Kd.R_slice hr1
  have hmp := (mayL_parts hm).1
  unfold outdentF
  have HBX := Aside0.mk hb
  have H1 := Aside0.mk hr1
  have H3 := Aside0.mk hr3
  have HB := Aside0.mk hB
  by_cases h0 : x.ls = []
  · rw [if_pos h0]
    have HL := Aside0.mk (lift_none_ x b _ v3 W hb (Wr.of_R hr1).rd h0)
    have hw : IntKind.i64.wrap (x.q - 1) = x.q - 1 := by rw [i64_w]; unfold wrap64; omega
    have c0 := hb.c0
    have f0 : W.frozen? ⟨b, 0, none⟩ = false := blk_frozen hb 0
    clear hb hr1 hr3 hB hmp h0 hm hz
    go_enter Tryd.func91, Tryd.ntmps91
    go_wp2_with (go_at_call 92; refine HL.out.mono ?_; rintro e w' ⟨rfl, ⟨nd, rfl⟩⟩)
    go_ret
    refine ⟨_, rfl, blk_put (blk_drewN HBX.out nd) 0 _ rfl, Wr.of_R (R_put_ (Kd.R_drewN H1.out nd) (blk_drewN HBX.out nd) (by decide) 0 _), Wr.of_R (R_put_ (Kd.R_drewN H3.out nd) (blk_drewN HBX.out nd) (by decide) 0 _), below_set (pw_below_drewN HB.out nd) hbb, fun o cells hne ho => blk_off_ ho hne⟩
  · rw [if_neg h0]
    have hk := lastF_may hm h0
    obtain ⟨n, hn⟩ : ∃ n, n + 1 = x.ls.length := ⟨x.ls.length - 1, by have := List.length_pos_iff.2 h0; omega⟩
    have HL := Aside0.mk (lift_some_ x b n A c v3 W hb (Wr.of_R hr1).rd hn (by omega))
    clear hb hr1 hr3 hB hmp h0 hm hz hk
    go_enter Tryd.func91, Tryd.ntmps91
    go_wp2_with (go_at_call 92; refine HL.out.mono ?_; rintro e w' ⟨rfl, nd, rfl⟩)
    go_ret
    refine ⟨_, rfl, blk_put (blk_drewN HBX.out nd) 1 _ rfl, Wr_shut_ (R_put_ (Kd.R_drewN H1.out nd) (blk_drewN HBX.out nd) (by decide) 1 _) hn, Wr.of_R (R_put_ (Kd.R_drewN H3.out nd) (blk_drewN HBX.out nd) (by decide) 1 _), below_set (pw_below_drewN HB.out nd) hbb, fun o cells hne ho => blk_off_ ho hne⟩
end Go.Proofs.YtgdpknmffohhaaaDoor.Pl

namespace Go.Proofs.YtgdpknmffohhaaaDoor.Pl
open Go.RowKit Go.Proofs.YtgdpknmffohhaaaDoorW.PrintWords Go.Proofs.YtgdpknmffohhaaaDoorW.PrintLast Go.Proofs.YtgdpknmffohhaaaDoorW.PrintMore
attribute [local go_sem] max2_int min2_int max_two min_two max_three min_three max_four min_four   -- for this text's walks alone
set_option linter.unusedVariables false
set_option linter.unusedSimpArgs false

/-! ### quillworkref05_May: function 85 -/
def quillworkref05_May.l0 : Nat → List (S71) → Int → Option (Bool)
  | 0, _, _ => none
  | k + 1, x0, x3 => if x3 < (x0.length : Int) then (if 0 ≤ x3 then (if ((rd_T71 x0 x3).f0) = 10 then (if ((rd_T71 x0 x3).f1) < 0 then (some false) else (if ((rd_T71 x0 x3).f1) > 15 then (some false) else ((quillworkref05_Link.f k ((rd_T71 x0 x3).f2)).bind fun t261 => (if t261 = true then (quillworkref05_May.l0 k x0 (wrap64 (x3 + 1))) else (some false))))) else ((quillworkref01_May.f k ((rd_T71 x0 x3).f0)).bind fun t262 => (if t262 = true then (if ((rd_T71 x0 x3).f1) < 0 then (some false) else (if ((rd_T71 x0 x3).f1) > 15 then (some false) else ((quillworkref05_Link.f k ((rd_T71 x0 x3).f2)).bind fun t263 => (if t263 = true then (quillworkref05_May.l0 k x0 (wrap64 (x3 + 1))) else (some false))))) else (some false)))) else (none)) else (some true)
def quillworkref05_May.f (k : Nat) (l0 : List (S71)) : Option (Bool) := quillworkref05_May.l0 k l0 0
set_option maxHeartbeats 8000000 in
set_option maxRecDepth 100000 in
theorem quillworkref05_May.calls (k : Nat) (A0 : Option Addr) (c0 : Nat) (l0 : List (S71)) (r : Bool) (w : World) (hr0 : Kd.C k71 w A0 l0.length l0) (hc0 : l0.length ≤ c0) (h : quillworkref05_May.f k l0 = some r) :
    Calls Tryd.prog 85 #[.slice A0 l0.length c0] w fun e w' => e = .returned (.bool r) ∧ Below w.heap.size w w' := by
  have hu71 := Tryd.underlying71
  have HR0 := Aside0.mk hr0
  have HC0 := Aside0.mk hc0
  clear hr0 hc0
  have HB := Aside0.mk (Below.refl w.heap.size w)
  have H : (quillworkref05_May.l0 k l0 0) = some r := h
  clear h
  have H' := Aside0.mk H
  clear H
  go_enter Tryd.func85, Tryd.ntmps85
  go_wp2
  go_loopg [3] k (fun kq v3 w' => ∃ (x3_1 : Int), v3 = .int .i64 x3_1 ∧ Aside0 (quillworkref05_May.l0 kq l0 x3_1 = some r) ∧ Aside0 (kq ≤ k) ∧ Aside0 (Below w.heap.size w w'))
  case atStart => exact ⟨(0), (by first | rfl | (simp; done) | (simp [*]; done)), H', ⟨Nat.le_refl _⟩, ⟨by repeat (first | (with_reducible first | exact HB.out | apply below_alloc | apply pw_below_drewN | apply below_drew1) | exact HB.out)⟩⟩
  case round =>
    clear H'
    obtain ⟨x3_1, rfl, HA, HK1, HB⟩ := hrel
    cases gk with
    | zero => exact absurd HA.out (by simp [quillworkref05_May.l0])
    | succ k1 =>
      have H := HA.out
      clear HA
      simp only [quillworkref05_May.l0] at H
      by_cases c2 : x3_1 < (l0.length : Int)
      · rw [if_pos c2] at H
        have c2b0 : decide (x3_1 < (l0.length : Int)) = true := decide_eq_true c2
        clear c2
        by_cases c3 : 0 ≤ x3_1
        · rw [if_pos c3] at H
          have c3b0 : decide (0 ≤ x3_1) = true := decide_eq_true c3
          clear c3
          by_cases c4 : ((rd_T71 l0 x3_1).f0) = 10
          · rw [if_pos c4] at H
            have c4b0 : (((rd_T71 l0 x3_1).f0) == 10) = true := beq_iff_eq.mpr c4
            have c4b1 : (((rd_T71 l0 x3_1).f0) != 10) = false := bne_eq_false_iff_eq.mpr c4
            clear c4
            by_cases c5 : ((rd_T71 l0 x3_1).f1) < 0
            · rw [if_pos c5] at H
              have c5b0 : decide (((rd_T71 l0 x3_1).f1) < 0) = true := decide_eq_true c5
              clear c5
              obtain rfl := Option.some.inj H
              have p259 : 0 ≤ (x3_1 : Int) := of_decide_eq_true (by first | (with_reducible assumption) | assumption)
              have q259 : x3_1 < (l0.length : Int) := of_decide_eq_true (by first | (with_reducible assumption) | assumption)
              obtain ⟨ad259, e259, hx259_0, hx259_1, hx259_2⟩ := at_T71 HR0.out x3_1 p259 q259
              cases e259
              replace hx259_0 := (HB.out.cell (World.block_lt_of_cell? w _ hx259_0)).trans hx259_0
              replace hx259_1 := (HB.out.cell (World.block_lt_of_cell? w _ hx259_1)).trans hx259_1
              replace hx259_2 := (HB.out.cell (World.block_lt_of_cell? w _ hx259_2)).trans hx259_2
              replace p259 := eq_true p259
              replace q259 := eq_true q259
              go_wp2_with (first | ((with_reducible refine gate_dst (N := 4) rfl ?_); refine box_event ?hg (N := 4) ?hd (cs := #[.int .i32 0, .int .i64 0, .string (⟨#[]⟩ : ByteArray)]) (t := 71) ?hr ?_; (case hd => rfl); (case hg => rfl); (case hr => first | (go_simp; done) | (go_simp; rfl)); intro gb260 hg w6 hbox hb; have n0_ := Aside0.mk (below_step (by repeat (first | (with_reducible first | exact HB.out | apply below_alloc | apply pw_below_drewN | apply below_drew1) | exact HB.out)) hb); have n1_ := Aside0.mk (hbox); have n2_ := Aside0.mk ((by rw [hg]; exact (below_size (by repeat (first | (with_reducible first | exact HB.out | apply below_alloc | apply pw_below_drewN | apply below_drew1) | exact HB.out))) : w.heap.size ≤ gb260)); have n3_ := Aside0.mk ((by rw [hg]; exact (below_size (by repeat (first | (with_reducible first | exact HB.out | apply below_alloc | apply pw_below_drewN | apply below_drew1) | exact HB.out))) : w.heap.size ≤ gb260)); clear HB; have HB := n0_; have BK260 := n1_; have GW260 := n2_; have GE260 := n3_; clear n0_ n1_ n2_ n3_; clear hb hbox hg; have hcz7_0 : w6.cell? ⟨gb260, 0, none⟩ = some (.int .i32 0) := (blk_cell BK260.out 0).trans rfl; have hcz7_1 : w6.cell? ⟨gb260, 1, none⟩ = some (.int .i64 0) := (blk_cell BK260.out 1).trans rfl; have hcz7_2 : w6.cell? ⟨gb260, 2, none⟩ = some (.string (⟨#[]⟩ : ByteArray)) := (blk_cell BK260.out 2).trans rfl; have hfz7_0 := blk_frozen BK260.out 0; have hfz7_1 := blk_frozen BK260.out 1; have hfz7_2 := blk_frozen BK260.out 2))
              go_ret
              exact ⟨by first | rfl | (simp [errW_none, errW_some] <;> rfl) | (simp [*, errW_none, errW_some] <;> rfl), by repeat (first | (with_reducible first | exact HB.out | apply below_alloc | apply pw_below_drewN | apply below_drew1 | refine below_set ?_ GE260.out) | exact HB.out)⟩
            · rw [if_neg c5] at H
              have c5b0 : decide (((rd_T71 l0 x3_1).f1) < 0) = false := decide_eq_false c5
              clear c5
              by_cases c8 : ((rd_T71 l0 x3_1).f1) > 15
              · rw [if_pos c8] at H
                have c8b0 : decide (15 < ((rd_T71 l0 x3_1).f1)) = true := decide_eq_true c8
                clear c8
                obtain rfl := Option.some.inj H
                have p259 : 0 ≤ (x3_1 : Int) := of_decide_eq_true (by first | (with_reducible assumption) | assumption)
                have q259 : x3_1 < (l0.length : Int) := of_decide_eq_true (by first | (with_reducible assumption) | assumption)
                obtain ⟨ad259, e259, hx259_0, hx259_1, hx259_2⟩ := at_T71 HR0.out x3_1 p259 q259
                cases e259
                replace hx259_0 := (HB.out.cell (World.block_lt_of_cell? w _ hx259_0)).trans hx259_0
                replace hx259_1 := (HB.out.cell (World.block_lt_of_cell? w _ hx259_1)).trans hx259_1
                replace hx259_2 := (HB.out.cell (World.block_lt_of_cell? w _ hx259_2)).trans hx259_2
                replace p259 := eq_true p259
                replace q259 := eq_true q259
                go_wp2_with (first | ((with_reducible refine gate_dst (N := 4) rfl ?_); refine box_event ?hg (N := 4) ?hd (cs := #[.int .i32 0, .int .i64 0, .string (⟨#[]⟩ : ByteArray)]) (t := 71) ?hr ?_; (case hd => rfl); (case hg => rfl); (case hr => first | (go_simp; done) | (go_simp; rfl)); intro gb260 hg w9 hbox hb; have n0_ := Aside0.mk (below_step (by repeat (first | (with_reducible first | exact HB.out | apply below_alloc | apply pw_below_drewN | apply below_drew1) | exact HB.out)) hb); have n1_ := Aside0.mk (hbox); have n2_ := Aside0.mk ((by rw [hg]; exact (below_size (by repeat (first | (with_reducible first | exact HB.out | apply below_alloc | apply pw_below_drewN | apply below_drew1) | exact HB.out))) : w.heap.size ≤ gb260)); have n3_ := Aside0.mk ((by rw [hg]; exact (below_size (by repeat (first | (with_reducible first | exact HB.out | apply below_alloc | apply pw_below_drewN | apply below_drew1) | exact HB.out))) : w.heap.size ≤ gb260)); clear HB; have HB := n0_; have BK260 := n1_; have GW260 := n2_; have GE260 := n3_; clear n0_ n1_ n2_ n3_; clear hb hbox hg; have hcz10_0 : w9.cell? ⟨gb260, 0, none⟩ = some (.int .i32 0) := (blk_cell BK260.out 0).trans rfl; have hcz10_1 : w9.cell? ⟨gb260, 1, none⟩ = some (.int .i64 0) := (blk_cell BK260.out 1).trans rfl; have hcz10_2 : w9.cell? ⟨gb260, 2, none⟩ = some (.string (⟨#[]⟩ : ByteArray)) := (blk_cell BK260.out 2).trans rfl; have hfz10_0 := blk_frozen BK260.out 0; have hfz10_1 := blk_frozen BK260.out 1; have hfz10_2 := blk_frozen BK260.out 2))
                go_ret
                exact ⟨by first | rfl | (simp [errW_none, errW_some] <;> rfl) | (simp [*, errW_none, errW_some] <;> rfl), by repeat (first | (with_reducible first | exact HB.out | apply below_alloc | apply pw_below_drewN | apply below_drew1 | refine below_set ?_ GE260.out) | exact HB.out)⟩
              · rw [if_neg c8] at H
                have c8b0 : decide (15 < ((rd_T71 l0 x3_1).f1)) = false := decide_eq_false c8
                clear c8
                replace H := Option.bind_eq_some_iff.mp H
                obtain ⟨t261, A110, H⟩ := H
                replace H : (if t261 = true then (quillworkref05_May.l0 k1 l0 (wrap64 (x3_1 + 1))) else (some false)) = some r := H
                have A11 := Aside0.mk A110
                clear A110
                by_cases c12 : t261 = true
                · subst c12
                  have H1 : (quillworkref05_May.l0 k1 l0 (wrap64 (x3_1 + 1))) = some r := by rw [if_pos rfl] at H; exact H
                  clear H
                  have H := H1
                  clear H1
                  have H' := Aside0.mk H
                  clear H
                  have p259 : 0 ≤ (x3_1 : Int) := of_decide_eq_true (by first | (with_reducible assumption) | assumption)
                  have q259 : x3_1 < (l0.length : Int) := of_decide_eq_true (by first | (with_reducible assumption) | assumption)
                  obtain ⟨ad259, e259, hx259_0, hx259_1, hx259_2⟩ := at_T71 HR0.out x3_1 p259 q259
                  cases e259
                  replace hx259_0 := (HB.out.cell (World.block_lt_of_cell? w _ hx259_0)).trans hx259_0
                  replace hx259_1 := (HB.out.cell (World.block_lt_of_cell? w _ hx259_1)).trans hx259_1
                  replace hx259_2 := (HB.out.cell (World.block_lt_of_cell? w _ hx259_2)).trans hx259_2
                  replace p259 := eq_true p259
                  replace q259 := eq_true q259
                  go_wp2_with (first | ((with_reducible refine gate_dst (N := 4) rfl ?_); refine box_event ?hg (N := 4) ?hd (cs := #[.int .i32 0, .int .i64 0, .string (⟨#[]⟩ : ByteArray)]) (t := 71) ?hr ?_; (case hd => rfl); (case hg => rfl); (case hr => first | (go_simp; done) | (go_simp; rfl)); intro gb260 hg w13 hbox hb; have n0_ := Aside0.mk (below_step (by repeat (first | (with_reducible first | exact HB.out | apply below_alloc | apply pw_below_drewN | apply below_drew1) | exact HB.out)) hb); have n1_ := Aside0.mk (hbox); have n2_ := Aside0.mk ((by rw [hg]; exact (below_size (by repeat (first | (with_reducible first | exact HB.out | apply below_alloc | apply pw_below_drewN | apply below_drew1) | exact HB.out))) : w.heap.size ≤ gb260)); have n3_ := Aside0.mk ((by rw [hg]; exact (below_size (by repeat (first | (with_reducible first | exact HB.out | apply below_alloc | apply pw_below_drewN | apply below_drew1) | exact HB.out))) : w.heap.size ≤ gb260)); clear HB; have HB := n0_; have BK260 := n1_; have GW260 := n2_; have GE260 := n3_; clear n0_ n1_ n2_ n3_; clear hb hbox hg; have hcz14_0 : w13.cell? ⟨gb260, 0, none⟩ = some (.int .i32 0) := (blk_cell BK260.out 0).trans rfl; have hcz14_1 : w13.cell? ⟨gb260, 1, none⟩ = some (.int .i64 0) := (blk_cell BK260.out 1).trans rfl; have hcz14_2 : w13.cell? ⟨gb260, 2, none⟩ = some (.string (⟨#[]⟩ : ByteArray)) := (blk_cell BK260.out 2).trans rfl; have hfz14_0 := blk_frozen BK260.out 0; have hfz14_1 := blk_frozen BK260.out 1; have hfz14_2 := blk_frozen BK260.out 2) | (go_at_call 107; (with_reducible refine (quillworkref05_Link.calls k1 ((rd_T71 l0 x3_1).f2) true _ A11.out).mono ?_); rintro e w15 ⟨rfl, hb⟩; have n0_ := Aside0.mk (blk_below (g := gb260) (o := .cells #[.int .i32 ((rd_T71 l0 x3_1).f0), .int .i64 ((rd_T71 l0 x3_1).f1), .string ((rd_T71 l0 x3_1).f2)] 71 (0, 0)) (by (with_reducible repeat (first | refine blk_drewN ?_ _ | refine blk_drew ?_ | refine blk_alloc ?_ _)); refine blk_put (cs := #[.int .i32 ((rd_T71 l0 x3_1).f0), .int .i64 ((rd_T71 l0 x3_1).f1), .string (⟨#[]⟩ : ByteArray)]) ?_ 2 _ rfl; (with_reducible repeat (first | refine blk_drewN ?_ _ | refine blk_drew ?_ | refine blk_alloc ?_ _)); refine blk_put (cs := #[.int .i32 ((rd_T71 l0 x3_1).f0), .int .i64 0, .string (⟨#[]⟩ : ByteArray)]) ?_ 1 _ rfl; (with_reducible repeat (first | refine blk_drewN ?_ _ | refine blk_drew ?_ | refine blk_alloc ?_ _)); refine blk_put (cs := #[.int .i32 0, .int .i64 0, .string (⟨#[]⟩ : ByteArray)]) ?_ 0 _ rfl; (with_reducible repeat (first | refine blk_drewN ?_ _ | refine blk_drew ?_ | refine blk_alloc ?_ _)); exact BK260.out) hb); have n1_ := Aside0.mk (below_step (by repeat (first | (with_reducible first | exact HB.out | apply below_alloc | apply pw_below_drewN | apply below_drew1 | refine below_set ?_ GE260.out) | exact HB.out)) hb); clear BK260; clear HB; have BK260 := n0_; have HB := n1_; clear n0_ n1_; (try clear hb); (try clear hb2); (try clear hk); (try clear hi)))
                  go_roundg k1
                  case measure => have := HK1.out; omega
                  case rel => exact ⟨(wrap64 (x3_1 + 1)), (by first | rfl | (simp; done) | (simp [*]; done)), H', ⟨by have := HK1.out; omega⟩, ⟨by repeat (first | (with_reducible first | exact HB.out | apply below_alloc | apply pw_below_drewN | apply below_drew1 | refine below_set ?_ GE260.out) | exact HB.out)⟩⟩
                · replace c12 := Bool.eq_false_iff.mpr c12
                  subst c12
                  have H1 : (some false) = some r := by rw [if_neg (show ¬ (false = true) by decide)] at H; exact H
                  clear H
                  have H := H1
                  clear H1
                  obtain rfl := Option.some.inj H
                  have p259 : 0 ≤ (x3_1 : Int) := of_decide_eq_true (by first | (with_reducible assumption) | assumption)
                  have q259 : x3_1 < (l0.length : Int) := of_decide_eq_true (by first | (with_reducible assumption) | assumption)
                  obtain ⟨ad259, e259, hx259_0, hx259_1, hx259_2⟩ := at_T71 HR0.out x3_1 p259 q259
                  cases e259
                  replace hx259_0 := (HB.out.cell (World.block_lt_of_cell? w _ hx259_0)).trans hx259_0
                  replace hx259_1 := (HB.out.cell (World.block_lt_of_cell? w _ hx259_1)).trans hx259_1
                  replace hx259_2 := (HB.out.cell (World.block_lt_of_cell? w _ hx259_2)).trans hx259_2
                  replace p259 := eq_true p259
                  replace q259 := eq_true q259
                  go_wp2_with (first | ((with_reducible refine gate_dst (N := 4) rfl ?_); refine box_event ?hg (N := 4) ?hd (cs := #[.int .i32 0, .int .i64 0, .string (⟨#[]⟩ : ByteArray)]) (t := 71) ?hr ?_; (case hd => rfl); (case hg => rfl); (case hr => first | (go_simp; done) | (go_simp; rfl)); intro gb260 hg w16 hbox hb; have n0_ := Aside0.mk (below_step (by repeat (first | (with_reducible first | exact HB.out | apply below_alloc | apply pw_below_drewN | apply below_drew1) | exact HB.out)) hb); have n1_ := Aside0.mk (hbox); have n2_ := Aside0.mk ((by rw [hg]; exact (below_size (by repeat (first | (with_reducible first | exact HB.out | apply below_alloc | apply pw_below_drewN | apply below_drew1) | exact HB.out))) : w.heap.size ≤ gb260)); have n3_ := Aside0.mk ((by rw [hg]; exact (below_size (by repeat (first | (with_reducible first | exact HB.out | apply below_alloc | apply pw_below_drewN | apply below_drew1) | exact HB.out))) : w.heap.size ≤ gb260)); clear HB; have HB := n0_; have BK260 := n1_; have GW260 := n2_; have GE260 := n3_; clear n0_ n1_ n2_ n3_; clear hb hbox hg; have hcz17_0 : w16.cell? ⟨gb260, 0, none⟩ = some (.int .i32 0) := (blk_cell BK260.out 0).trans rfl; have hcz17_1 : w16.cell? ⟨gb260, 1, none⟩ = some (.int .i64 0) := (blk_cell BK260.out 1).trans rfl; have hcz17_2 : w16.cell? ⟨gb260, 2, none⟩ = some (.string (⟨#[]⟩ : ByteArray)) := (blk_cell BK260.out 2).trans rfl; have hfz17_0 := blk_frozen BK260.out 0; have hfz17_1 := blk_frozen BK260.out 1; have hfz17_2 := blk_frozen BK260.out 2) | (go_at_call 107; (with_reducible refine (quillworkref05_Link.calls k1 ((rd_T71 l0 x3_1).f2) false _ A11.out).mono ?_); rintro e w18 ⟨rfl, hb⟩; have n0_ := Aside0.mk (blk_below (g := gb260) (o := .cells #[.int .i32 ((rd_T71 l0 x3_1).f0), .int .i64 ((rd_T71 l0 x3_1).f1), .string ((rd_T71 l0 x3_1).f2)] 71 (0, 0)) (by (with_reducible repeat (first | refine blk_drewN ?_ _ | refine blk_drew ?_ | refine blk_alloc ?_ _)); refine blk_put (cs := #[.int .i32 ((rd_T71 l0 x3_1).f0), .int .i64 ((rd_T71 l0 x3_1).f1), .string (⟨#[]⟩ : ByteArray)]) ?_ 2 _ rfl; (with_reducible repeat (first | refine blk_drewN ?_ _ | refine blk_drew ?_ | refine blk_alloc ?_ _)); refine blk_put (cs := #[.int .i32 ((rd_T71 l0 x3_1).f0), .int .i64 0, .string (⟨#[]⟩ : ByteArray)]) ?_ 1 _ rfl; (with_reducible repeat (first | refine blk_drewN ?_ _ | refine blk_drew ?_ | refine blk_alloc ?_ _)); refine blk_put (cs := #[.int .i32 0, .int .i64 0, .string (⟨#[]⟩ : ByteArray)]) ?_ 0 _ rfl; (with_reducible repeat (first | refine blk_drewN ?_ _ | refine blk_drew ?_ | refine blk_alloc ?_ _)); exact BK260.out) hb); have n1_ := Aside0.mk (below_step (by repeat (first | (with_reducible first | exact HB.out | apply below_alloc | apply pw_below_drewN | apply below_drew1 | refine below_set ?_ GE260.out) | exact HB.out)) hb); clear BK260; clear HB; have BK260 := n0_; have HB := n1_; clear n0_ n1_; (try clear hb); (try clear hb2); (try clear hk); (try clear hi)))
                  go_ret
                  exact ⟨by first | rfl | (simp [errW_none, errW_some] <;> rfl) | (simp [*, errW_none, errW_some] <;> rfl), by repeat (first | (with_reducible first | exact HB.out | apply below_alloc | apply pw_below_drewN | apply below_drew1 | refine below_set ?_ GE260.out) | exact HB.out)⟩
          · rw [if_neg c4] at H
            have c4b0 : (((rd_T71 l0 x3_1).f0) == 10) = false := beq_eq_false_iff_ne.mpr c4
            have c4b1 : (((rd_T71 l0 x3_1).f0) != 10) = true := bne_iff_ne.mpr c4
            replace H := Option.bind_eq_some_iff.mp H
            obtain ⟨t262, A190, H⟩ := H
            replace H : (if t262 = true then (if ((rd_T71 l0 x3_1).f1) < 0 then (some false) else (if ((rd_T71 l0 x3_1).f1) > 15 then (some false) else ((quillworkref05_Link.f k1 ((rd_T71 l0 x3_1).f2)).bind fun t263 => (if t263 = true then (quillworkref05_May.l0 k1 l0 (wrap64 (x3_1 + 1))) else (some false))))) else (some false)) = some r := H
            have A19 := Aside0.mk A190
            clear A190
            by_cases c20 : t262 = true
            · subst c20
              have H1 : (if ((rd_T71 l0 x3_1).f1) < 0 then (some false) else (if ((rd_T71 l0 x3_1).f1) > 15 then (some false) else ((quillworkref05_Link.f k1 ((rd_T71 l0 x3_1).f2)).bind fun t263 => (if t263 = true then (quillworkref05_May.l0 k1 l0 (wrap64 (x3_1 + 1))) else (some false))))) = some r := by rw [if_pos rfl] at H; exact H
              clear H
              have H := H1
              clear H1
              by_cases c21 : ((rd_T71 l0 x3_1).f1) < 0
              · rw [if_pos c21] at H
                have c21b0 : decide (((rd_T71 l0 x3_1).f1) < 0) = true := decide_eq_true c21
                clear c21
                obtain rfl := Option.some.inj H
                have p259 : 0 ≤ (x3_1 : Int) := of_decide_eq_true (by first | (with_reducible assumption) | assumption)
                have q259 : x3_1 < (l0.length : Int) := of_decide_eq_true (by first | (with_reducible assumption) | assumption)
                obtain ⟨ad259, e259, hx259_0, hx259_1, hx259_2⟩ := at_T71 HR0.out x3_1 p259 q259
                cases e259
                replace hx259_0 := (HB.out.cell (World.block_lt_of_cell? w _ hx259_0)).trans hx259_0
                replace hx259_1 := (HB.out.cell (World.block_lt_of_cell? w _ hx259_1)).trans hx259_1
                replace hx259_2 := (HB.out.cell (World.block_lt_of_cell? w _ hx259_2)).trans hx259_2
                replace p259 := eq_true p259
                replace q259 := eq_true q259
                go_wp2_with (first | ((with_reducible refine gate_dst (N := 4) rfl ?_); refine box_event ?hg (N := 4) ?hd (cs := #[.int .i32 0, .int .i64 0, .string (⟨#[]⟩ : ByteArray)]) (t := 71) ?hr ?_; (case hd => rfl); (case hg => rfl); (case hr => first | (go_simp; done) | (go_simp; rfl)); intro gb260 hg w22 hbox hb; have n0_ := Aside0.mk (below_step (by repeat (first | (with_reducible first | exact HB.out | apply below_alloc | apply pw_below_drewN | apply below_drew1) | exact HB.out)) hb); have n1_ := Aside0.mk (hbox); have n2_ := Aside0.mk ((by rw [hg]; exact (below_size (by repeat (first | (with_reducible first | exact HB.out | apply below_alloc | apply pw_below_drewN | apply below_drew1) | exact HB.out))) : w.heap.size ≤ gb260)); have n3_ := Aside0.mk ((by rw [hg]; exact (below_size (by repeat (first | (with_reducible first | exact HB.out | apply below_alloc | apply pw_below_drewN | apply below_drew1) | exact HB.out))) : w.heap.size ≤ gb260)); clear HB; have HB := n0_; have BK260 := n1_; have GW260 := n2_; have GE260 := n3_; clear n0_ n1_ n2_ n3_; clear hb hbox hg; have hcz23_0 : w22.cell? ⟨gb260, 0, none⟩ = some (.int .i32 0) := (blk_cell BK260.out 0).trans rfl; have hcz23_1 : w22.cell? ⟨gb260, 1, none⟩ = some (.int .i64 0) := (blk_cell BK260.out 1).trans rfl; have hcz23_2 : w22.cell? ⟨gb260, 2, none⟩ = some (.string (⟨#[]⟩ : ByteArray)) := (blk_cell BK260.out 2).trans rfl; have hfz23_0 := blk_frozen BK260.out 0; have hfz23_1 := blk_frozen BK260.out 1; have hfz23_2 := blk_frozen BK260.out 2) | (go_at_call 124; (with_reducible refine (quillworkref01_May.calls k1 ((rd_T71 l0 x3_1).f0) true _ A19.out).mono ?_); rintro e w' ⟨rfl, ⟨nd, rfl⟩⟩))
                go_ret
                exact ⟨by first | rfl | (simp [errW_none, errW_some] <;> rfl) | (simp [*, errW_none, errW_some] <;> rfl), by repeat (first | (with_reducible first | exact HB.out | apply below_alloc | apply pw_below_drewN | apply below_drew1 | refine below_set ?_ GE260.out) | exact HB.out)⟩
              · rw [if_neg c21] at H
                have c21b0 : decide (((rd_T71 l0 x3_1).f1) < 0) = false := decide_eq_false c21
                clear c21
                by_cases c24 : ((rd_T71 l0 x3_1).f1) > 15
                · rw [if_pos c24] at H
                  have c24b0 : decide (15 < ((rd_T71 l0 x3_1).f1)) = true := decide_eq_true c24
                  clear c24
                  obtain rfl := Option.some.inj H
                  have p259 : 0 ≤ (x3_1 : Int) := of_decide_eq_true (by first | (with_reducible assumption) | assumption)
                  have q259 : x3_1 < (l0.length : Int) := of_decide_eq_true (by first | (with_reducible assumption) | assumption)
                  obtain ⟨ad259, e259, hx259_0, hx259_1, hx259_2⟩ := at_T71 HR0.out x3_1 p259 q259
                  cases e259
                  replace hx259_0 := (HB.out.cell (World.block_lt_of_cell? w _ hx259_0)).trans hx259_0
                  replace hx259_1 := (HB.out.cell (World.block_lt_of_cell? w _ hx259_1)).trans hx259_1
                  replace hx259_2 := (HB.out.cell (World.block_lt_of_cell? w _ hx259_2)).trans hx259_2
                  replace p259 := eq_true p259
                  replace q259 := eq_true q259
                  go_wp2_with (first | ((with_reducible refine gate_dst (N := 4) rfl ?_); refine box_event ?hg (N := 4) ?hd (cs := #[.int .i32 0, .int .i64 0, .string (⟨#[]⟩ : ByteArray)]) (t := 71) ?hr ?_; (case hd => rfl); (case hg => rfl); (case hr => first | (go_simp; done) | (go_simp; rfl)); intro gb260 hg w25 hbox hb; have n0_ := Aside0.mk (below_step (by repeat (first | (with_reducible first | exact HB.out | apply below_alloc | apply pw_below_drewN | apply below_drew1) | exact HB.out)) hb); have n1_ := Aside0.mk (hbox); have n2_ := Aside0.mk ((by rw [hg]; exact (below_size (by repeat (first | (with_reducible first | exact HB.out | apply below_alloc | apply pw_below_drewN | apply below_drew1) | exact HB.out))) : w.heap.size ≤ gb260)); have n3_ := Aside0.mk ((by rw [hg]; exact (below_size (by repeat (first | (with_reducible first | exact HB.out | apply below_alloc | apply pw_below_drewN | apply below_drew1) | exact HB.out))) : w.heap.size ≤ gb260)); clear HB; have HB := n0_; have BK260 := n1_; have GW260 := n2_; have GE260 := n3_; clear n0_ n1_ n2_ n3_; clear hb hbox hg; have hcz26_0 : w25.cell? ⟨gb260, 0, none⟩ = some (.int .i32 0) := (blk_cell BK260.out 0).trans rfl; have hcz26_1 : w25.cell? ⟨gb260, 1, none⟩ = some (.int .i64 0) := (blk_cell BK260.out 1).trans rfl; have hcz26_2 : w25.cell? ⟨gb260, 2, none⟩ = some (.string (⟨#[]⟩ : ByteArray)) := (blk_cell BK260.out 2).trans rfl; have hfz26_0 := blk_frozen BK260.out 0; have hfz26_1 := blk_frozen BK260.out 1; have hfz26_2 := blk_frozen BK260.out 2) | (go_at_call 124; (with_reducible refine (quillworkref01_May.calls k1 ((rd_T71 l0 x3_1).f0) true _ A19.out).mono ?_); rintro e w' ⟨rfl, ⟨nd, rfl⟩⟩))
                  go_ret
                  exact ⟨by first | rfl | (simp [errW_none, errW_some] <;> rfl) | (simp [*, errW_none, errW_some] <;> rfl), by repeat (first | (with_reducible first | exact HB.out | apply below_alloc | apply pw_below_drewN | apply below_drew1 | refine below_set ?_ GE260.out) | exact HB.out)⟩
                · rw [if_neg c24] at H
                  have c24b0 : decide (15 < ((rd_T71 l0 x3_1).f1)) = false := decide_eq_false c24
                  clear c24
                  replace H := Option.bind_eq_some_iff.mp H
                  obtain ⟨t263, A270, H⟩ := H
                  replace H : (if t263 = true then (quillworkref05_May.l0 k1 l0 (wrap64 (x3_1 + 1))) else (some false)) = some r := H
                  have A27 := Aside0.mk A270
                  clear A270
                  by_cases c28 : t263 = true
                  · subst c28
                    have H1 : (quillworkref05_May.l0 k1 l0 (wrap64 (x3_1 + 1))) = some r := by rw [if_pos rfl] at H; exact H
                    clear H
                    have H := H1
                    clear H1
                    have H' := Aside0.mk H
                    clear H
                    have p259 : 0 ≤ (x3_1 : Int) := of_decide_eq_true (by first | (with_reducible assumption) | assumption)
                    have q259 : x3_1 < (l0.length : Int) := of_decide_eq_true (by first | (with_reducible assumption) | assumption)
                    obtain ⟨ad259, e259, hx259_0, hx259_1, hx259_2⟩ := at_T71 HR0.out x3_1 p259 q259
                    cases e259
                    replace hx259_0 := (HB.out.cell (World.block_lt_of_cell? w _ hx259_0)).trans hx259_0
                    replace hx259_1 := (HB.out.cell (World.block_lt_of_cell? w _ hx259_1)).trans hx259_1
                    replace hx259_2 := (HB.out.cell (World.block_lt_of_cell? w _ hx259_2)).trans hx259_2
                    replace p259 := eq_true p259
                    replace q259 := eq_true q259
                    go_wp2_with (first | ((with_reducible refine gate_dst (N := 4) rfl ?_); refine box_event ?hg (N := 4) ?hd (cs := #[.int .i32 0, .int .i64 0, .string (⟨#[]⟩ : ByteArray)]) (t := 71) ?hr ?_; (case hd => rfl); (case hg => rfl); (case hr => first | (go_simp; done) | (go_simp; rfl)); intro gb260 hg w29 hbox hb; have n0_ := Aside0.mk (below_step (by repeat (first | (with_reducible first | exact HB.out | apply below_alloc | apply pw_below_drewN | apply below_drew1) | exact HB.out)) hb); have n1_ := Aside0.mk (hbox); have n2_ := Aside0.mk ((by rw [hg]; exact (below_size (by repeat (first | (with_reducible first | exact HB.out | apply below_alloc | apply pw_below_drewN | apply below_drew1) | exact HB.out))) : w.heap.size ≤ gb260)); have n3_ := Aside0.mk ((by rw [hg]; exact (below_size (by repeat (first | (with_reducible first | exact HB.out | apply below_alloc | apply pw_below_drewN | apply below_drew1) | exact HB.out))) : w.heap.size ≤ gb260)); clear HB; have HB := n0_; have BK260 := n1_; have GW260 := n2_; have GE260 := n3_; clear n0_ n1_ n2_ n3_; clear hb hbox hg; have hcz30_0 : w29.cell? ⟨gb260, 0, none⟩ = some (.int .i32 0) := (blk_cell BK260.out 0).trans rfl; have hcz30_1 : w29.cell? ⟨gb260, 1, none⟩ = some (.int .i64 0) := (blk_cell BK260.out 1).trans rfl; have hcz30_2 : w29.cell? ⟨gb260, 2, none⟩ = some (.string (⟨#[]⟩ : ByteArray)) := (blk_cell BK260.out 2).trans rfl; have hfz30_0 := blk_frozen BK260.out 0; have hfz30_1 := blk_frozen BK260.out 1; have hfz30_2 := blk_frozen BK260.out 2) | (go_at_call 124; (with_reducible refine (quillworkref01_May.calls k1 ((rd_T71 l0 x3_1).f0) true _ A19.out).mono ?_); rintro e w' ⟨rfl, ⟨nd, rfl⟩⟩) | (go_at_call 107; (with_reducible refine (quillworkref05_Link.calls k1 ((rd_T71 l0 x3_1).f2) true _ A27.out).mono ?_); rintro e w31 ⟨rfl, hb⟩; have n0_ := Aside0.mk (blk_below (g := gb260) (o := .cells #[.int .i32 ((rd_T71 l0 x3_1).f0), .int .i64 ((rd_T71 l0 x3_1).f1), .string ((rd_T71 l0 x3_1).f2)] 71 (0, 0)) (by (with_reducible repeat (first | refine blk_drewN ?_ _ | refine blk_drew ?_ | refine blk_alloc ?_ _)); refine blk_put (cs := #[.int .i32 ((rd_T71 l0 x3_1).f0), .int .i64 ((rd_T71 l0 x3_1).f1), .string (⟨#[]⟩ : ByteArray)]) ?_ 2 _ rfl; (with_reducible repeat (first | refine blk_drewN ?_ _ | refine blk_drew ?_ | refine blk_alloc ?_ _)); refine blk_put (cs := #[.int .i32 ((rd_T71 l0 x3_1).f0), .int .i64 0, .string (⟨#[]⟩ : ByteArray)]) ?_ 1 _ rfl; (with_reducible repeat (first | refine blk_drewN ?_ _ | refine blk_drew ?_ | refine blk_alloc ?_ _)); refine blk_put (cs := #[.int .i32 0, .int .i64 0, .string (⟨#[]⟩ : ByteArray)]) ?_ 0 _ rfl; (with_reducible repeat (first | refine blk_drewN ?_ _ | refine blk_drew ?_ | refine blk_alloc ?_ _)); exact BK260.out) hb); have n1_ := Aside0.mk (below_step (by repeat (first | (with_reducible first | exact HB.out | apply below_alloc | apply pw_below_drewN | apply below_drew1 | refine below_set ?_ GE260.out) | exact HB.out)) hb); clear BK260; clear HB; have BK260 := n0_; have HB := n1_; clear n0_ n1_; (try clear hb); (try clear hb2); (try clear hk); (try clear hi)))
                    go_roundg k1
                    case measure => have := HK1.out; omega
                    case rel => exact ⟨(wrap64 (x3_1 + 1)), (by first | rfl | (simp; done) | (simp [*]; done)), H', ⟨by have := HK1.out; omega⟩, ⟨by repeat (first | (with_reducible first | exact HB.out | apply below_alloc | apply pw_below_drewN | apply below_drew1 | refine below_set ?_ GE260.out) | exact HB.out)⟩⟩
                  · replace c28 := Bool.eq_false_iff.mpr c28
                    subst c28
                    have H1 : (some false) = some r := by rw [if_neg (show ¬ (false = true) by decide)] at H; exact H
                    clear H
                    have H := H1
                    clear H1
                    obtain rfl := Option.some.inj H
                    have p259 : 0 ≤ (x3_1 : Int) := of_decide_eq_true (by first | (with_reducible assumption) | assumption)
                    have q259 : x3_1 < (l0.length : Int) := of_decide_eq_true (by first | (with_reducible assumption) | assumption)
                    obtain ⟨ad259, e259, hx259_0, hx259_1, hx259_2⟩ := at_T71 HR0.out x3_1 p259 q259
                    cases e259
                    replace hx259_0 := (HB.out.cell (World.block_lt_of_cell? w _ hx259_0)).trans hx259_0
                    replace hx259_1 := (HB.out.cell (World.block_lt_of_cell? w _ hx259_1)).trans hx259_1
                    replace hx259_2 := (HB.out.cell (World.block_lt_of_cell? w _ hx259_2)).trans hx259_2
                    replace p259 := eq_true p259
                    replace q259 := eq_true q259
                    go_wp2_with (first | ((with_reducible refine gate_dst (N := 4) rfl ?_); refine box_event ?hg (N := 4) ?hd (cs := #[.int .i32 0, .int .i64 0, .string (⟨#[]⟩ : ByteArray)]) (t := 71) ?hr ?_; (case hd => rfl); (case hg => rfl); (case hr => first | (go_simp; done) | (go_simp; rfl)); intro gb260 hg w32 hbox hb; have n0_ := Aside0.mk (below_step (by repeat (first | (with_reducible first | exact HB.out | apply below_alloc | apply pw_below_drewN | apply below_drew1) | exact HB.out)) hb); have n1_ := Aside0.mk (hbox); have n2_ := Aside0.mk ((by rw [hg]; exact (below_size (by repeat (first | (with_reducible first | exact HB.out | apply below_alloc | apply pw_below_drewN | apply below_drew1) | exact HB.out))) : w.heap.size ≤ gb260)); have n3_ := Aside0.mk ((by rw [hg]; exact (below_size (by repeat (first | (with_reducible first | exact HB.out | apply below_alloc | apply pw_below_drewN | apply below_drew1) | exact HB.out))) : w.heap.size ≤ gb260)); clear HB; have HB := n0_; have BK260 := n1_; have GW260 := n2_; have GE260 := n3_; clear n0_ n1_ n2_ n3_; clear hb hbox hg; have hcz33_0 : w32.cell? ⟨gb260, 0, none⟩ = some (.int .i32 0) := (blk_cell BK260.out 0).trans rfl; have hcz33_1 : w32.cell? ⟨gb260, 1, none⟩ = some (.int .i64 0) := (blk_cell BK260.out 1).trans rfl; have hcz33_2 : w32.cell? ⟨gb260, 2, none⟩ = some (.string (⟨#[]⟩ : ByteArray)) := (blk_cell BK260.out 2).trans rfl; have hfz33_0 := blk_frozen BK260.out 0; have hfz33_1 := blk_frozen BK260.out 1; have hfz33_2 := blk_frozen BK260.out 2) | (go_at_call 124; (with_reducible refine (quillworkref01_May.calls k1 ((rd_T71 l0 x3_1).f0) true _ A19.out).mono ?_); rintro e w' ⟨rfl, ⟨nd, rfl⟩⟩) | (go_at_call 107; (with_reducible refine (quillworkref05_Link.calls k1 ((rd_T71 l0 x3_1).f2) false _ A27.out).mono ?_); rintro e w34 ⟨rfl, hb⟩; have n0_ := Aside0.mk (blk_below (g := gb260) (o := .cells #[.int .i32 ((rd_T71 l0 x3_1).f0), .int .i64 ((rd_T71 l0 x3_1).f1), .string ((rd_T71 l0 x3_1).f2)] 71 (0, 0)) (by (with_reducible repeat (first | refine blk_drewN ?_ _ | refine blk_drew ?_ | refine blk_alloc ?_ _)); refine blk_put (cs := #[.int .i32 ((rd_T71 l0 x3_1).f0), .int .i64 ((rd_T71 l0 x3_1).f1), .string (⟨#[]⟩ : ByteArray)]) ?_ 2 _ rfl; (with_reducible repeat (first | refine blk_drewN ?_ _ | refine blk_drew ?_ | refine blk_alloc ?_ _)); refine blk_put (cs := #[.int .i32 ((rd_T71 l0 x3_1).f0), .int .i64 0, .string (⟨#[]⟩ : ByteArray)]) ?_ 1 _ rfl; (with_reducible repeat (first | refine blk_drewN ?_ _ | refine blk_drew ?_ | refine blk_alloc ?_ _)); refine blk_put (cs := #[.int .i32 0, .int .i64 0, .string (⟨#[]⟩ : ByteArray)]) ?_ 0 _ rfl; (with_reducible repeat (first | refine blk_drewN ?_ _ | refine blk_drew ?_ | refine blk_alloc ?_ _)); exact BK260.out) hb); have n1_ := Aside0.mk (below_step (by repeat (first | (with_reducible first | exact HB.out | apply below_alloc | apply pw_below_drewN | apply below_drew1 | refine below_set ?_ GE260.out) | exact HB.out)) hb); clear BK260; clear HB; have BK260 := n0_; have HB := n1_; clear n0_ n1_; (try clear hb); (try clear hb2); (try clear hk); (try clear hi)))
                    go_ret
                    exact ⟨by first | rfl | (simp [errW_none, errW_some] <;> rfl) | (simp [*, errW_none, errW_some] <;> rfl), by repeat (first | (with_reducible first | exact HB.out | apply below_alloc | apply pw_below_drewN | apply below_drew1 | refine below_set ?_ GE260.out) | exact HB.out)⟩
            · replace c20 := Bool.eq_false_iff.mpr c20
              subst c20
              have H1 : (some false) = some r := by rw [if_neg (show ¬ (false = true) by decide)] at H; exact H
              clear H
              have H := H1
              clear H1
              obtain rfl := Option.some.inj H
              have p259 : 0 ≤ (x3_1 : Int) := of_decide_eq_true (by first | (with_reducible assumption) | assumption)
              have q259 : x3_1 < (l0.length : Int) := of_decide_eq_true (by first | (with_reducible assumption) | assumption)
              obtain ⟨ad259, e259, hx259_0, hx259_1, hx259_2⟩ := at_T71 HR0.out x3_1 p259 q259
              cases e259
              replace hx259_0 := (HB.out.cell (World.block_lt_of_cell? w _ hx259_0)).trans hx259_0
              replace hx259_1 := (HB.out.cell (World.block_lt_of_cell? w _ hx259_1)).trans hx259_1
              replace hx259_2 := (HB.out.cell (World.block_lt_of_cell? w _ hx259_2)).trans hx259_2
              replace p259 := eq_true p259
              replace q259 := eq_true q259
              go_wp2_with (first | ((with_reducible refine gate_dst (N := 4) rfl ?_); refine box_event ?hg (N := 4) ?hd (cs := #[.int .i32 0, .int .i64 0, .string (⟨#[]⟩ : ByteArray)]) (t := 71) ?hr ?_; (case hd => rfl); (case hg => rfl); (case hr => first | (go_simp; done) | (go_simp; rfl)); intro gb260 hg w35 hbox hb; have n0_ := Aside0.mk (below_step (by repeat (first | (with_reducible first | exact HB.out | apply below_alloc | apply pw_below_drewN | apply below_drew1) | exact HB.out)) hb); have n1_ := Aside0.mk (hbox); have n2_ := Aside0.mk ((by rw [hg]; exact (below_size (by repeat (first | (with_reducible first | exact HB.out | apply below_alloc | apply pw_below_drewN | apply below_drew1) | exact HB.out))) : w.heap.size ≤ gb260)); have n3_ := Aside0.mk ((by rw [hg]; exact (below_size (by repeat (first | (with_reducible first | exact HB.out | apply below_alloc | apply pw_below_drewN | apply below_drew1) | exact HB.out))) : w.heap.size ≤ gb260)); clear HB; have HB := n0_; have BK260 := n1_; have GW260 := n2_; have GE260 := n3_; clear n0_ n1_ n2_ n3_; clear hb hbox hg; have hcz36_0 : w35.cell? ⟨gb260, 0, none⟩ = some (.int .i32 0) := (blk_cell BK260.out 0).trans rfl; have hcz36_1 : w35.cell? ⟨gb260, 1, none⟩ = some (.int .i64 0) := (blk_cell BK260.out 1).trans rfl; have hcz36_2 : w35.cell? ⟨gb260, 2, none⟩ = some (.string (⟨#[]⟩ : ByteArray)) := (blk_cell BK260.out 2).trans rfl; have hfz36_0 := blk_frozen BK260.out 0; have hfz36_1 := blk_frozen BK260.out 1; have hfz36_2 := blk_frozen BK260.out 2) | (go_at_call 124; (with_reducible refine (quillworkref01_May.calls k1 ((rd_T71 l0 x3_1).f0) false _ A19.out).mono ?_); rintro e w' ⟨rfl, ⟨nd, rfl⟩⟩))
              go_ret
              exact ⟨by first | rfl | (simp [errW_none, errW_some] <;> rfl) | (simp [*, errW_none, errW_some] <;> rfl), by repeat (first | (with_reducible first | exact HB.out | apply below_alloc | apply pw_below_drewN | apply below_drew1 | refine below_set ?_ GE260.out) | exact HB.out)⟩
        · rw [if_neg c3] at H
          exact absurd H (by simp)
      · rw [if_neg c2] at H
        have c2b0 : decide (x3_1 < (l0.length : Int)) = false := decide_eq_false c2
        clear c2
        obtain rfl := Option.some.inj H
        go_wp2
        go_ret
        exact ⟨by first | rfl | (simp [errW_none, errW_some] <;> rfl) | (simp [*, errW_none, errW_some] <;> rfl), by repeat (first | (with_reducible first | exact HB.out | apply below_alloc | apply pw_below_drewN | apply below_drew1) | exact HB.out)⟩

end Go.Proofs.YtgdpknmffohhaaaDoor.Pl

namespace Go.Proofs.YtgdpknmffohhaaaDoor.Pl
open Go.RowKit Go.Proofs.YtgdpknmffohhaaaDoorW.PrintWords Go.Proofs.YtgdpknmffohhaaaDoorW.PrintLast Go.Proofs.YtgdpknmffohhaaaDoorW.PrintMore
attribute [local go_sem] max2_int min2_int max_two min_two max_three min_three max_four min_four   -- for this text's walks alone
set_option linter.unusedVariables false
set_option linter.unusedSimpArgs false

/-! ### quillworkref06_May: function 38 -/
mutual
def quillworkref06_May.j0 : Nat → Bool → Int → List Int → Int → List (S71) → Option (Bool)
  | 0, _, _, _, _, _ => none
  | k + 1, x27, x265000, x265001, x265002, x265003 => if x27 = true then (some false) else (quillworkref06_May.l0 k 0 x265000 x265001 x265002 x265003)
def quillworkref06_May.l0 : Nat → Int → Int → List Int → Int → List (S71) → Option (Bool)
  | 0, _, _, _, _, _ => none
  | k + 1, x3, x265000, x265001, x265002, x265003 => if x3 < (x265001.length : Int) then (if 0 ≤ x3 then (if (rd x265001 x3) = 0 then (if x265002 = 0 then (quillworkref06_May.l0 k (wrap64 (x3 + 1)) x265000 x265001 x265002 x265003) else (some false)) else (if (rd x265001 x3) = 1 then (if x265002 = 0 then (quillworkref06_May.l0 k (wrap64 (x3 + 1)) x265000 x265001 x265002 x265003) else (some false)) else (some false))) else (none)) else ((quillworkref05_May.f k x265003).bind fun t267 => (some t267))
end
def quillworkref06_May.f (k : Nat) (a0_0 : Int) (l0_1 : List Int) (a0_2 : Int) (l0_3 : List (S71)) : Option (Bool) := if a0_0 < 0 then (quillworkref06_May.j0 k true a0_0 l0_1 a0_2 l0_3) else (if a0_0 > 6 then (quillworkref06_May.j0 k true a0_0 l0_1 a0_2 l0_3) else (if (l0_1.length : Int) > 6 then (quillworkref06_May.j0 k true a0_0 l0_1 a0_2 l0_3) else (if a0_2 < 0 then (quillworkref06_May.j0 k true a0_0 l0_1 a0_2 l0_3) else (quillworkref06_May.j0 k (decide (a0_2 > 3)) a0_0 l0_1 a0_2 l0_3))))
set_option maxHeartbeats 8000000 in
set_option maxRecDepth 100000 in
theorem quillworkref06_May.calls (k : Nat) (a0_0 : Int) (A0_1 : Option Addr) (c0_1 : Nat) (l0_1 : List Int) (a0_2 : Int) (A0_3 : Option Addr) (c0_3 : Nat) (l0_3 : List (S71)) (r : Bool) (w : World) (hr0_1 : Kd.C (Kd.int .i64) w A0_1 l0_1.length l0_1) (hc0_1 : l0_1.length ≤ c0_1) (hr0_3 : Kd.C k71 w A0_3 l0_3.length l0_3) (hc0_3 : l0_3.length ≤ c0_3) (h : quillworkref06_May.f k a0_0 l0_1 a0_2 l0_3 = some r) :
    Calls Tryd.prog 38 #[.agg #[.int .i64 a0_0, .slice A0_1 l0_1.length c0_1, .int .i64 a0_2, .slice A0_3 l0_3.length c0_3]] w fun e w' => e = .returned (.bool r) ∧ Below w.heap.size w w' := by
  have hu38 := Tryd.underlying38
  have HR0_1 := Aside0.mk hr0_1
  have HC0_1 := Aside0.mk hc0_1
  clear hr0_1 hc0_1
  have HR0_3 := Aside0.mk hr0_3
  have HC0_3 := Aside0.mk hc0_3
  clear hr0_3 hc0_3
  have HB := Aside0.mk (Below.refl w.heap.size w)
  have H : (if a0_0 < 0 then (quillworkref06_May.j0 k true a0_0 l0_1 a0_2 l0_3) else (if a0_0 > 6 then (quillworkref06_May.j0 k true a0_0 l0_1 a0_2 l0_3) else (if (l0_1.length : Int) > 6 then (quillworkref06_May.j0 k true a0_0 l0_1 a0_2 l0_3) else (if a0_2 < 0 then (quillworkref06_May.j0 k true a0_0 l0_1 a0_2 l0_3) else (quillworkref06_May.j0 k (decide (a0_2 > 3)) a0_0 l0_1 a0_2 l0_3))))) = some r := h
  clear h
  have HC2 := Aside0.mk H
  clear H
  go_enter Tryd.func38, Tryd.ntmps38
  go_upto_region 1 with (first | ((with_reducible refine gate_dst (N := 1) rfl ?_); (try (refine gate_guard (by rfl) ?_; dsimp only)); refine box_event ?hg (N := 1) ?hd (cs := #[.int .i64 a0_0, .slice A0_1 l0_1.length c0_1, .int .i64 a0_2, .slice A0_3 l0_3.length c0_3]) (t := 38) ?hr ?_; (case hd => rfl); (case hg => rfl); (case hr => first | (go_simp; done) | (go_simp; rfl)); intro gb264 hg w3 hbox hb; have n0_ := Aside0.mk (below_step (by repeat (first | (with_reducible first | exact HB.out | apply below_alloc | apply pw_below_drewN | apply below_drew1) | exact HB.out)) hb); have n1_ := Aside0.mk (hbox); have n2_ := Aside0.mk ((by rw [hg]; exact (below_size (by repeat (first | (with_reducible first | exact HB.out | apply below_alloc | apply pw_below_drewN | apply below_drew1) | exact HB.out))) : w.heap.size ≤ gb264)); have n3_ := Aside0.mk ((by rw [hg]; exact (below_size (by repeat (first | (with_reducible first | exact HB.out | apply below_alloc | apply pw_below_drewN | apply below_drew1) | exact HB.out))) : w.heap.size ≤ gb264)); clear HB; have HB := n0_; have BK264 := n1_; have GW264 := n2_; have GE264 := n3_; clear n0_ n1_ n2_ n3_; clear hb hbox hg))
  (try simp only [Act.put, List.setIfInBounds_toArray, List.set_cons_zero, List.set_cons_succ])
  go_cut [27] (fun v27 wc => ∃ (kq : Nat) (x27_1 : Bool), v27 = .bool x27_1 ∧ Aside0 (quillworkref06_May.j0 kq x27_1 a0_0 l0_1 a0_2 l0_3 = some r) ∧ Aside0 (kq ≤ k) ∧ Aside0 (wc.heap[gb264]? = some (.cells #[.int .i64 a0_0, (.slice A0_1 l0_1.length c0_1), .int .i64 a0_2, (.slice A0_3 l0_3.length c0_3)] 38 (0, 0))) ∧ Aside0 (Below w.heap.size w wc))
  case first =>
    have H := HC2.out
    clear HC2
    by_cases c4 : a0_0 < 0
    · rw [if_pos c4] at H
      have c4b0 : decide (a0_0 < 0) = true := decide_eq_true c4
      clear c4
      (first | rw [c4b0] | (simp only [i64_w, i32_w]; rw [c4b0]) | skip)
      have H' := Aside0.mk H
      clear H
      have hcz5_0 : w3.cell? ⟨gb264, 0, none⟩ = some (.int .i64 a0_0) := (blk_cell BK264.out 0).trans rfl
      have hcz5_1 : w3.cell? ⟨gb264, 1, none⟩ = some (.slice A0_1 l0_1.length c0_1) := (blk_cell BK264.out 1).trans rfl
      have hcz5_2 : w3.cell? ⟨gb264, 2, none⟩ = some (.int .i64 a0_2) := (blk_cell BK264.out 2).trans rfl
      have hcz5_3 : w3.cell? ⟨gb264, 3, none⟩ = some (.slice A0_3 l0_3.length c0_3) := (blk_cell BK264.out 3).trans rfl
      have hfz5_0 := blk_frozen BK264.out 0
      have hfz5_1 := blk_frozen BK264.out 1
      have hfz5_2 := blk_frozen BK264.out 2
      have hfz5_3 := blk_frozen BK264.out 3
      go_wp2
      go_meet
      case rel => exact ⟨_, (true), (by first | rfl | (simp; done) | (simp [*]; done)), H', ⟨by first | omega | exact Nat.le_refl _⟩, ⟨by (with_reducible repeat (first | refine blk_drewN ?_ _ | refine blk_drew ?_ | refine blk_alloc ?_ _)); exact BK264.out⟩, ⟨by repeat (first | (with_reducible first | exact HB.out | apply below_alloc | apply pw_below_drewN | apply below_drew1 | refine below_set ?_ GE264.out) | exact HB.out)⟩⟩
    · rw [if_neg c4] at H
      have c4b0 : decide (a0_0 < 0) = false := decide_eq_false c4
      clear c4
      (first | rw [c4b0] | (simp only [i64_w, i32_w]; rw [c4b0]) | skip)
      by_cases c6 : a0_0 > 6
      · rw [if_pos c6] at H
        have c6b0 : decide (6 < a0_0) = true := decide_eq_true c6
        clear c6
        have H' := Aside0.mk H
        clear H
        have hcz7_0 : w3.cell? ⟨gb264, 0, none⟩ = some (.int .i64 a0_0) := (blk_cell BK264.out 0).trans rfl
        have hcz7_1 : w3.cell? ⟨gb264, 1, none⟩ = some (.slice A0_1 l0_1.length c0_1) := (blk_cell BK264.out 1).trans rfl
        have hcz7_2 : w3.cell? ⟨gb264, 2, none⟩ = some (.int .i64 a0_2) := (blk_cell BK264.out 2).trans rfl
        have hcz7_3 : w3.cell? ⟨gb264, 3, none⟩ = some (.slice A0_3 l0_3.length c0_3) := (blk_cell BK264.out 3).trans rfl
        have hfz7_0 := blk_frozen BK264.out 0
        have hfz7_1 := blk_frozen BK264.out 1
        have hfz7_2 := blk_frozen BK264.out 2
        have hfz7_3 := blk_frozen BK264.out 3
        go_wp2
        go_meet
        case rel => exact ⟨_, (true), (by first | rfl | (simp; done) | (simp [*]; done)), H', ⟨by first | omega | exact Nat.le_refl _⟩, ⟨by (with_reducible repeat (first | refine blk_drewN ?_ _ | refine blk_drew ?_ | refine blk_alloc ?_ _)); exact BK264.out⟩, ⟨by repeat (first | (with_reducible first | exact HB.out | apply below_alloc | apply pw_below_drewN | apply below_drew1 | refine below_set ?_ GE264.out) | exact HB.out)⟩⟩
      · rw [if_neg c6] at H
        have c6b0 : decide (6 < a0_0) = false := decide_eq_false c6
        clear c6
        by_cases c8 : (l0_1.length : Int) > 6
        · rw [if_pos c8] at H
          have c8b0 : decide (6 < (l0_1.length : Int)) = true := decide_eq_true c8
          have c8b1 : decide (6 < l0_1.length) = true := decide_eq_true (by omega)
          clear c8
          have H' := Aside0.mk H
          clear H
          have hcz9_0 : w3.cell? ⟨gb264, 0, none⟩ = some (.int .i64 a0_0) := (blk_cell BK264.out 0).trans rfl
          have hcz9_1 : w3.cell? ⟨gb264, 1, none⟩ = some (.slice A0_1 l0_1.length c0_1) := (blk_cell BK264.out 1).trans rfl
          have hcz9_2 : w3.cell? ⟨gb264, 2, none⟩ = some (.int .i64 a0_2) := (blk_cell BK264.out 2).trans rfl
          have hcz9_3 : w3.cell? ⟨gb264, 3, none⟩ = some (.slice A0_3 l0_3.length c0_3) := (blk_cell BK264.out 3).trans rfl
          have hfz9_0 := blk_frozen BK264.out 0
          have hfz9_1 := blk_frozen BK264.out 1
          have hfz9_2 := blk_frozen BK264.out 2
          have hfz9_3 := blk_frozen BK264.out 3
          go_wp2
          go_meet
          case rel => exact ⟨_, (true), (by first | rfl | (simp; done) | (simp [*]; done)), H', ⟨by first | omega | exact Nat.le_refl _⟩, ⟨by (with_reducible repeat (first | refine blk_drewN ?_ _ | refine blk_drew ?_ | refine blk_alloc ?_ _)); exact BK264.out⟩, ⟨by repeat (first | (with_reducible first | exact HB.out | apply below_alloc | apply pw_below_drewN | apply below_drew1 | refine below_set ?_ GE264.out) | exact HB.out)⟩⟩
        · rw [if_neg c8] at H
          have c8b0 : decide (6 < (l0_1.length : Int)) = false := decide_eq_false c8
          have c8b1 : decide (6 < l0_1.length) = false := decide_eq_false (by omega)
          clear c8
          by_cases c10 : a0_2 < 0
          · rw [if_pos c10] at H
            have c10b0 : decide (a0_2 < 0) = true := decide_eq_true c10
            clear c10
            have H' := Aside0.mk H
            clear H
            have hcz11_0 : w3.cell? ⟨gb264, 0, none⟩ = some (.int .i64 a0_0) := (blk_cell BK264.out 0).trans rfl
            have hcz11_1 : w3.cell? ⟨gb264, 1, none⟩ = some (.slice A0_1 l0_1.length c0_1) := (blk_cell BK264.out 1).trans rfl
            have hcz11_2 : w3.cell? ⟨gb264, 2, none⟩ = some (.int .i64 a0_2) := (blk_cell BK264.out 2).trans rfl
            have hcz11_3 : w3.cell? ⟨gb264, 3, none⟩ = some (.slice A0_3 l0_3.length c0_3) := (blk_cell BK264.out 3).trans rfl
            have hfz11_0 := blk_frozen BK264.out 0
            have hfz11_1 := blk_frozen BK264.out 1
            have hfz11_2 := blk_frozen BK264.out 2
            have hfz11_3 := blk_frozen BK264.out 3
            go_wp2
            go_meet
            case rel => exact ⟨_, (true), (by first | rfl | (simp; done) | (simp [*]; done)), H', ⟨by first | omega | exact Nat.le_refl _⟩, ⟨by (with_reducible repeat (first | refine blk_drewN ?_ _ | refine blk_drew ?_ | refine blk_alloc ?_ _)); exact BK264.out⟩, ⟨by repeat (first | (with_reducible first | exact HB.out | apply below_alloc | apply pw_below_drewN | apply below_drew1 | refine below_set ?_ GE264.out) | exact HB.out)⟩⟩
          · rw [if_neg c10] at H
            have c10b0 : decide (a0_2 < 0) = false := decide_eq_false c10
            clear c10
            have H' := Aside0.mk H
            clear H
            have hcz12_0 : w3.cell? ⟨gb264, 0, none⟩ = some (.int .i64 a0_0) := (blk_cell BK264.out 0).trans rfl
            have hcz12_1 : w3.cell? ⟨gb264, 1, none⟩ = some (.slice A0_1 l0_1.length c0_1) := (blk_cell BK264.out 1).trans rfl
            have hcz12_2 : w3.cell? ⟨gb264, 2, none⟩ = some (.int .i64 a0_2) := (blk_cell BK264.out 2).trans rfl
            have hcz12_3 : w3.cell? ⟨gb264, 3, none⟩ = some (.slice A0_3 l0_3.length c0_3) := (blk_cell BK264.out 3).trans rfl
            have hfz12_0 := blk_frozen BK264.out 0
            have hfz12_1 := blk_frozen BK264.out 1
            have hfz12_2 := blk_frozen BK264.out 2
            have hfz12_3 := blk_frozen BK264.out 3
            go_wp2
            go_meet
            case rel => exact ⟨_, (decide (a0_2 > 3)), (by first | rfl | (simp; done) | (simp [*]; done)), H', ⟨by first | omega | exact Nat.le_refl _⟩, ⟨by (with_reducible repeat (first | refine blk_drewN ?_ _ | refine blk_drew ?_ | refine blk_alloc ?_ _)); exact BK264.out⟩, ⟨by repeat (first | (with_reducible first | exact HB.out | apply below_alloc | apply pw_below_drewN | apply below_drew1 | refine below_set ?_ GE264.out) | exact HB.out)⟩⟩
  case rest =>
    clear HC2
    try clear c1
    try clear p2
    try clear c3
    try clear c4
    try clear c4b0
    try clear c6
    try clear c6b0
    try clear c8
    try clear c8b0
    try clear c8b1
    try clear c10
    try clear c10b0
    try clear hcz11_0
    try clear hcz11_1
    try clear hcz11_2
    try clear hcz11_3
    try clear hcz12_0
    try clear hcz12_1
    try clear hcz12_2
    try clear hcz12_3
    try clear hcz5_0
    try clear hcz5_1
    try clear hcz5_2
    try clear hcz5_3
    try clear hcz7_0
    try clear hcz7_1
    try clear hcz7_2
    try clear hcz7_3
    try clear hcz9_0
    try clear hcz9_1
    try clear hcz9_2
    try clear hcz9_3
    try clear hfz11_0
    try clear hfz11_1
    try clear hfz11_2
    try clear hfz11_3
    try clear hfz12_0
    try clear hfz12_1
    try clear hfz12_2
    try clear hfz12_3
    try clear hfz5_0
    try clear hfz5_1
    try clear hfz5_2
    try clear hfz5_3
    try clear hfz7_0
    try clear hfz7_1
    try clear hfz7_2
    try clear hfz7_3
    try clear hfz9_0
    try clear hfz9_1
    try clear hfz9_2
    try clear hfz9_3
    obtain ⟨kq, x27_1, rfl, HA, HJ1, BK264, HB⟩ := hcut
    cases kq with
    | zero => exact absurd HA.out (by simp [quillworkref06_May.j0])
    | succ kj1 =>
      have H := HA.out
      clear HA
      simp only [quillworkref06_May.j0] at H
      by_cases c13 : x27_1 = true
      · subst c13
        have H1 : (some false) = some r := by rw [if_pos rfl] at H; exact H
        clear H
        have H := H1
        clear H1
        obtain rfl := Option.some.inj H
        go_wp2
        go_ret
        exact ⟨by first | rfl | (simp [errW_none, errW_some] <;> rfl) | (simp [*, errW_none, errW_some] <;> rfl), by repeat (first | (with_reducible first | exact HB.out | apply below_alloc | apply pw_below_drewN | apply below_drew1 | refine below_set ?_ GE264.out) | exact HB.out)⟩
      · replace c13 := Bool.eq_false_iff.mpr c13
        subst c13
        have H1 : (quillworkref06_May.l0 kj1 0 a0_0 l0_1 a0_2 l0_3) = some r := by rw [if_neg (show ¬ (false = true) by decide)] at H; exact H
        clear H
        have H := H1
        clear H1
        have H' := Aside0.mk H
        clear H
        go_wp2
        go_loopg [3] kj1 (fun kq v3 w' => ∃ (x3_2 : Int), v3 = .int .i64 x3_2 ∧ Aside0 (quillworkref06_May.l0 kq x3_2 a0_0 l0_1 a0_2 l0_3 = some r) ∧ Aside0 (kq ≤ kj1) ∧ Aside0 (w'.heap[gb264]? = some (.cells #[.int .i64 a0_0, (.slice A0_1 l0_1.length c0_1), .int .i64 a0_2, (.slice A0_3 l0_3.length c0_3)] 38 (0, 0))) ∧ Aside0 (Below w.heap.size w w'))
        case atStart => exact ⟨(0), (by first | rfl | (simp; done) | (simp [*]; done)), H', ⟨Nat.le_refl _⟩, ⟨by (with_reducible repeat (first | refine blk_drewN ?_ _ | refine blk_drew ?_ | refine blk_alloc ?_ _)); exact BK264.out⟩, ⟨by repeat (first | (with_reducible first | exact HB.out | apply below_alloc | apply pw_below_drewN | apply below_drew1 | refine below_set ?_ GE264.out) | exact HB.out)⟩⟩
        case round =>
          clear H'
          try clear c1
          try clear p2
          try clear c3
          try clear c4
          try clear c4b0
          try clear c6
          try clear c6b0
          try clear c8
          try clear c8b0
          try clear c8b1
          try clear c10
          try clear c10b0
          try clear c13
          try clear hcz11_0
          try clear hcz11_1
          try clear hcz11_2
          try clear hcz11_3
          try clear hcz12_0
          try clear hcz12_1
          try clear hcz12_2
          try clear hcz12_3
          try clear hcz5_0
          try clear hcz5_1
          try clear hcz5_2
          try clear hcz5_3
          try clear hcz7_0
          try clear hcz7_1
          try clear hcz7_2
          try clear hcz7_3
          try clear hcz9_0
          try clear hcz9_1
          try clear hcz9_2
          try clear hcz9_3
          try clear hfz11_0
          try clear hfz11_1
          try clear hfz11_2
          try clear hfz11_3
          try clear hfz12_0
          try clear hfz12_1
          try clear hfz12_2
          try clear hfz12_3
          try clear hfz5_0
          try clear hfz5_1
          try clear hfz5_2
          try clear hfz5_3
          try clear hfz7_0
          try clear hfz7_1
          try clear hfz7_2
          try clear hfz7_3
          try clear hfz9_0
          try clear hfz9_1
          try clear hfz9_2
          try clear hfz9_3
          try clear p2
          obtain ⟨x3_2, rfl, HA, HK2, BK264, HB⟩ := hrel
          cases gk with
          | zero => exact absurd HA.out (by simp [quillworkref06_May.l0])
          | succ k2 =>
            have H := HA.out
            clear HA
            simp only [quillworkref06_May.l0] at H
            by_cases c14 : x3_2 < (l0_1.length : Int)
            · rw [if_pos c14] at H
              have c14b0 : decide (x3_2 < (l0_1.length : Int)) = true := decide_eq_true c14
              clear c14
              by_cases c15 : 0 ≤ x3_2
              · rw [if_pos c15] at H
                have c15b0 : decide (0 ≤ x3_2) = true := decide_eq_true c15
                clear c15
                by_cases c16 : (rd l0_1 x3_2) = 0
                · rw [if_pos c16] at H
                  have c16b0 : ((rd l0_1 x3_2) == 0) = true := beq_iff_eq.mpr c16
                  have c16b1 : ((rd l0_1 x3_2) != 0) = false := bne_eq_false_iff_eq.mpr c16
                  clear c16
                  by_cases c17 : a0_2 = 0
                  · rw [if_pos c17] at H
                    have c17b0 : (a0_2 == 0) = true := beq_iff_eq.mpr c17
                    have c17b1 : (a0_2 != 0) = false := bne_eq_false_iff_eq.mpr c17
                    clear c17
                    have H' := Aside0.mk H
                    clear H
                    have hcz18_0 : wr.cell? ⟨gb264, 0, none⟩ = some (.int .i64 a0_0) := (blk_cell BK264.out 0).trans rfl
                    have hcz18_1 : wr.cell? ⟨gb264, 1, none⟩ = some (.slice A0_1 l0_1.length c0_1) := (blk_cell BK264.out 1).trans rfl
                    have hcz18_2 : wr.cell? ⟨gb264, 2, none⟩ = some (.int .i64 a0_2) := (blk_cell BK264.out 2).trans rfl
                    have hcz18_3 : wr.cell? ⟨gb264, 3, none⟩ = some (.slice A0_3 l0_3.length c0_3) := (blk_cell BK264.out 3).trans rfl
                    have hfz18_0 := blk_frozen BK264.out 0
                    have hfz18_1 := blk_frozen BK264.out 1
                    have hfz18_2 := blk_frozen BK264.out 2
                    have hfz18_3 := blk_frozen BK264.out 3
                    have p265 : 0 ≤ (x3_2 : Int) := of_decide_eq_true (by first | (with_reducible assumption) | assumption)
                    have q265 : x3_2 < (l0_1.length : Int) := of_decide_eq_true (by first | (with_reducible assumption) | assumption)
                    obtain ⟨ad265, e265, hx265_0⟩ := Kd.at_int HR0_1.out x3_2 p265 q265
                    cases e265
                    replace hx265_0 := (HB.out.cell (World.block_lt_of_cell? w _ hx265_0)).trans hx265_0
                    replace p265 := eq_true p265
                    replace q265 := eq_true q265
                    go_wp2
                    go_roundg k2
                    case measure => have := HJ1.out; have := HK2.out; omega
                    case rel => exact ⟨(wrap64 (x3_2 + 1)), (by first | rfl | (simp; done) | (simp [*]; done)), H', ⟨by have := HJ1.out; have := HK2.out; omega⟩, ⟨by (with_reducible repeat (first | refine blk_drewN ?_ _ | refine blk_drew ?_ | refine blk_alloc ?_ _)); exact BK264.out⟩, ⟨by repeat (first | (with_reducible first | exact HB.out | apply below_alloc | apply pw_below_drewN | apply below_drew1 | refine below_set ?_ GE264.out) | exact HB.out)⟩⟩
                  · rw [if_neg c17] at H
                    have c17b0 : (a0_2 == 0) = false := beq_eq_false_iff_ne.mpr c17
                    have c17b1 : (a0_2 != 0) = true := bne_iff_ne.mpr c17
                    obtain rfl := Option.some.inj H
                    have hcz19_0 : wr.cell? ⟨gb264, 0, none⟩ = some (.int .i64 a0_0) := (blk_cell BK264.out 0).trans rfl
                    have hcz19_1 : wr.cell? ⟨gb264, 1, none⟩ = some (.slice A0_1 l0_1.length c0_1) := (blk_cell BK264.out 1).trans rfl
                    have hcz19_2 : wr.cell? ⟨gb264, 2, none⟩ = some (.int .i64 a0_2) := (blk_cell BK264.out 2).trans rfl
                    have hcz19_3 : wr.cell? ⟨gb264, 3, none⟩ = some (.slice A0_3 l0_3.length c0_3) := (blk_cell BK264.out 3).trans rfl
                    have hfz19_0 := blk_frozen BK264.out 0
                    have hfz19_1 := blk_frozen BK264.out 1
                    have hfz19_2 := blk_frozen BK264.out 2
                    have hfz19_3 := blk_frozen BK264.out 3
                    have p265 : 0 ≤ (x3_2 : Int) := of_decide_eq_true (by first | (with_reducible assumption) | assumption)
                    have q265 : x3_2 < (l0_1.length : Int) := of_decide_eq_true (by first | (with_reducible assumption) | assumption)
                    obtain ⟨ad265, e265, hx265_0⟩ := Kd.at_int HR0_1.out x3_2 p265 q265
                    cases e265
                    replace hx265_0 := (HB.out.cell (World.block_lt_of_cell? w _ hx265_0)).trans hx265_0
                    replace p265 := eq_true p265
                    replace q265 := eq_true q265
                    go_wp2
                    go_ret
                    exact ⟨by first | rfl | (simp [errW_none, errW_some] <;> rfl) | (simp [*, errW_none, errW_some] <;> rfl), by repeat (first | (with_reducible first | exact HB.out | apply below_alloc | apply pw_below_drewN | apply below_drew1 | refine below_set ?_ GE264.out) | exact HB.out)⟩
                · rw [if_neg c16] at H
                  have c16b0 : ((rd l0_1 x3_2) == 0) = false := beq_eq_false_iff_ne.mpr c16
                  have c16b1 : ((rd l0_1 x3_2) != 0) = true := bne_iff_ne.mpr c16
                  by_cases c20 : (rd l0_1 x3_2) = 1
                  · rw [if_pos c20] at H
                    have c20b0 : ((rd l0_1 x3_2) == 1) = true := beq_iff_eq.mpr c20
                    have c20b1 : ((rd l0_1 x3_2) != 1) = false := bne_eq_false_iff_eq.mpr c20
                    clear c20
                    by_cases c21 : a0_2 = 0
                    · rw [if_pos c21] at H
                      have c21b0 : (a0_2 == 0) = true := beq_iff_eq.mpr c21
                      have c21b1 : (a0_2 != 0) = false := bne_eq_false_iff_eq.mpr c21
                      clear c21
                      have H' := Aside0.mk H
                      clear H
                      have hcz22_0 : wr.cell? ⟨gb264, 0, none⟩ = some (.int .i64 a0_0) := (blk_cell BK264.out 0).trans rfl
                      have hcz22_1 : wr.cell? ⟨gb264, 1, none⟩ = some (.slice A0_1 l0_1.length c0_1) := (blk_cell BK264.out 1).trans rfl
                      have hcz22_2 : wr.cell? ⟨gb264, 2, none⟩ = some (.int .i64 a0_2) := (blk_cell BK264.out 2).trans rfl
                      have hcz22_3 : wr.cell? ⟨gb264, 3, none⟩ = some (.slice A0_3 l0_3.length c0_3) := (blk_cell BK264.out 3).trans rfl
                      have hfz22_0 := blk_frozen BK264.out 0
                      have hfz22_1 := blk_frozen BK264.out 1
                      have hfz22_2 := blk_frozen BK264.out 2
                      have hfz22_3 := blk_frozen BK264.out 3
                      have p265 : 0 ≤ (x3_2 : Int) := of_decide_eq_true (by first | (with_reducible assumption) | assumption)
                      have q265 : x3_2 < (l0_1.length : Int) := of_decide_eq_true (by first | (with_reducible assumption) | assumption)
                      obtain ⟨ad265, e265, hx265_0⟩ := Kd.at_int HR0_1.out x3_2 p265 q265
                      cases e265
                      replace hx265_0 := (HB.out.cell (World.block_lt_of_cell? w _ hx265_0)).trans hx265_0
                      replace p265 := eq_true p265
                      replace q265 := eq_true q265
                      have p266 : 0 ≤ (x3_2 : Int) := of_decide_eq_true (by first | (with_reducible assumption) | assumption)
                      have q266 : x3_2 < (l0_1.length : Int) := of_decide_eq_true (by first | (with_reducible assumption) | assumption)
                      obtain ⟨ad266, e266, hx266_0⟩ := Kd.at_int HR0_1.out x3_2 p266 q266
                      obtain rfl : ad265 = ad266 := (by injection e266)
                      replace hx266_0 := (HB.out.cell (World.block_lt_of_cell? w _ hx266_0)).trans hx266_0
                      replace p266 := eq_true p266
                      replace q266 := eq_true q266
                      go_wp2
                      go_roundg k2
                      case measure => have := HJ1.out; have := HK2.out; omega
                      case rel => exact ⟨(wrap64 (x3_2 + 1)), (by first | rfl | (simp; done) | (simp [*]; done)), H', ⟨by have := HJ1.out; have := HK2.out; omega⟩, ⟨by (with_reducible repeat (first | refine blk_drewN ?_ _ | refine blk_drew ?_ | refine blk_alloc ?_ _)); exact BK264.out⟩, ⟨by repeat (first | (with_reducible first | exact HB.out | apply below_alloc | apply pw_below_drewN | apply below_drew1 | refine below_set ?_ GE264.out) | exact HB.out)⟩⟩
                    · rw [if_neg c21] at H
                      have c21b0 : (a0_2 == 0) = false := beq_eq_false_iff_ne.mpr c21
                      have c21b1 : (a0_2 != 0) = true := bne_iff_ne.mpr c21
                      obtain rfl := Option.some.inj H
                      have hcz23_0 : wr.cell? ⟨gb264, 0, none⟩ = some (.int .i64 a0_0) := (blk_cell BK264.out 0).trans rfl
                      have hcz23_1 : wr.cell? ⟨gb264, 1, none⟩ = some (.slice A0_1 l0_1.length c0_1) := (blk_cell BK264.out 1).trans rfl
                      have hcz23_2 : wr.cell? ⟨gb264, 2, none⟩ = some (.int .i64 a0_2) := (blk_cell BK264.out 2).trans rfl
                      have hcz23_3 : wr.cell? ⟨gb264, 3, none⟩ = some (.slice A0_3 l0_3.length c0_3) := (blk_cell BK264.out 3).trans rfl
                      have hfz23_0 := blk_frozen BK264.out 0
                      have hfz23_1 := blk_frozen BK264.out 1
                      have hfz23_2 := blk_frozen BK264.out 2
                      have hfz23_3 := blk_frozen BK264.out 3
                      have p265 : 0 ≤ (x3_2 : Int) := of_decide_eq_true (by first | (with_reducible assumption) | assumption)
                      have q265 : x3_2 < (l0_1.length : Int) := of_decide_eq_true (by first | (with_reducible assumption) | assumption)
                      obtain ⟨ad265, e265, hx265_0⟩ := Kd.at_int HR0_1.out x3_2 p265 q265
                      cases e265
                      replace hx265_0 := (HB.out.cell (World.block_lt_of_cell? w _ hx265_0)).trans hx265_0
                      replace p265 := eq_true p265
                      replace q265 := eq_true q265
                      have p266 : 0 ≤ (x3_2 : Int) := of_decide_eq_true (by first | (with_reducible assumption) | assumption)
                      have q266 : x3_2 < (l0_1.length : Int) := of_decide_eq_true (by first | (with_reducible assumption) | assumption)
                      obtain ⟨ad266, e266, hx266_0⟩ := Kd.at_int HR0_1.out x3_2 p266 q266
                      obtain rfl : ad265 = ad266 := (by injection e266)
                      replace hx266_0 := (HB.out.cell (World.block_lt_of_cell? w _ hx266_0)).trans hx266_0
                      replace p266 := eq_true p266
                      replace q266 := eq_true q266
                      go_wp2
                      go_ret
                      exact ⟨by first | rfl | (simp [errW_none, errW_some] <;> rfl) | (simp [*, errW_none, errW_some] <;> rfl), by repeat (first | (with_reducible first | exact HB.out | apply below_alloc | apply pw_below_drewN | apply below_drew1 | refine below_set ?_ GE264.out) | exact HB.out)⟩
                  · rw [if_neg c20] at H
                    have c20b0 : ((rd l0_1 x3_2) == 1) = false := beq_eq_false_iff_ne.mpr c20
                    have c20b1 : ((rd l0_1 x3_2) != 1) = true := bne_iff_ne.mpr c20
                    obtain rfl := Option.some.inj H
                    have hcz24_0 : wr.cell? ⟨gb264, 0, none⟩ = some (.int .i64 a0_0) := (blk_cell BK264.out 0).trans rfl
                    have hcz24_1 : wr.cell? ⟨gb264, 1, none⟩ = some (.slice A0_1 l0_1.length c0_1) := (blk_cell BK264.out 1).trans rfl
                    have hcz24_2 : wr.cell? ⟨gb264, 2, none⟩ = some (.int .i64 a0_2) := (blk_cell BK264.out 2).trans rfl
                    have hcz24_3 : wr.cell? ⟨gb264, 3, none⟩ = some (.slice A0_3 l0_3.length c0_3) := (blk_cell BK264.out 3).trans rfl
                    have hfz24_0 := blk_frozen BK264.out 0
                    have hfz24_1 := blk_frozen BK264.out 1
                    have hfz24_2 := blk_frozen BK264.out 2
                    have hfz24_3 := blk_frozen BK264.out 3
                    have p265 : 0 ≤ (x3_2 : Int) := of_decide_eq_true (by first | (with_reducible assumption) | assumption)
                    have q265 : x3_2 < (l0_1.length : Int) := of_decide_eq_true (by first | (with_reducible assumption) | assumption)
                    obtain ⟨ad265, e265, hx265_0⟩ := Kd.at_int HR0_1.out x3_2 p265 q265
                    cases e265
                    replace hx265_0 := (HB.out.cell (World.block_lt_of_cell? w _ hx265_0)).trans hx265_0
                    replace p265 := eq_true p265
                    replace q265 := eq_true q265
                    have p266 : 0 ≤ (x3_2 : Int) := of_decide_eq_true (by first | (with_reducible assumption) | assumption)
                    have q266 : x3_2 < (l0_1.length : Int) := of_decide_eq_true (by first | (with_reducible assumption) | assumption)
                    obtain ⟨ad266, e266, hx266_0⟩ := Kd.at_int HR0_1.out x3_2 p266 q266
                    obtain rfl : ad265 = ad266 := (by injection e266)
                    replace hx266_0 := (HB.out.cell (World.block_lt_of_cell? w _ hx266_0)).trans hx266_0
                    replace p266 := eq_true p266
                    replace q266 := eq_true q266
                    go_wp2
                    go_ret
                    exact ⟨by first | rfl | (simp [errW_none, errW_some] <;> rfl) | (simp [*, errW_none, errW_some] <;> rfl), by repeat (first | (with_reducible first | exact HB.out | apply below_alloc | apply pw_below_drewN | apply below_drew1 | refine below_set ?_ GE264.out) | exact HB.out)⟩
              · rw [if_neg c15] at H
                exact absurd H (by simp)
            · rw [if_neg c14] at H
              have c14b0 : decide (x3_2 < (l0_1.length : Int)) = false := decide_eq_false c14
              clear c14
              replace H := Option.bind_eq_some_iff.mp H
              obtain ⟨t267, A250, H⟩ := H
              replace H : (some t267) = some r := H
              have A25 := Aside0.mk A250
              clear A250
              obtain rfl := Option.some.inj H
              have hcz26_0 : wr.cell? ⟨gb264, 0, none⟩ = some (.int .i64 a0_0) := (blk_cell BK264.out 0).trans rfl
              have hcz26_1 : wr.cell? ⟨gb264, 1, none⟩ = some (.slice A0_1 l0_1.length c0_1) := (blk_cell BK264.out 1).trans rfl
              have hcz26_2 : wr.cell? ⟨gb264, 2, none⟩ = some (.int .i64 a0_2) := (blk_cell BK264.out 2).trans rfl
              have hcz26_3 : wr.cell? ⟨gb264, 3, none⟩ = some (.slice A0_3 l0_3.length c0_3) := (blk_cell BK264.out 3).trans rfl
              have hfz26_0 := blk_frozen BK264.out 0
              have hfz26_1 := blk_frozen BK264.out 1
              have hfz26_2 := blk_frozen BK264.out 2
              have hfz26_3 := blk_frozen BK264.out 3
              go_wp2_with (first | ((with_reducible refine gate_callee (f := 85) rfl ?_); refine goesL_ (some 56) rfl rfl Tryd.func85 (by kernel_rfl) rfl #[.slice A0_3 l0_3.length c0_3] rfl (by (try simp only [List.map_toArray, List.map_cons, List.map_nil]); first | done | rfl | (simp only [List.length_drop, List.length_take]; rfl)) ?_; (with_reducible refine (quillworkref05_May.calls k2 _ _ l0_3 t267 _ ?side1 ?side2 A25.out).mono ?_); (case side1 => repeat (first | exact (Kd.C_below HR0_3.out HB.out) | (with_reducible refine Kd.C_alloc ?_ _) | (with_reducible refine Kd.C_drewN ?_ _) | (with_reducible refine Kd.C_drew ?_))); (case side2 => exact HC0_3.out); rintro e w27 ⟨rfl, hb⟩; refine ⟨_, rfl, ?_⟩; have n0_ := Aside0.mk (blk_below (g := gb264) (o := .cells #[.int .i64 a0_0, .slice A0_1 l0_1.length c0_1, .int .i64 a0_2, .slice A0_3 l0_3.length c0_3] 38 (0, 0)) (by (with_reducible repeat (first | refine blk_drewN ?_ _ | refine blk_drew ?_ | refine blk_alloc ?_ _)); exact BK264.out) hb); have n1_ := Aside0.mk (below_step (by repeat (first | (with_reducible first | exact HB.out | apply below_alloc | apply pw_below_drewN | apply below_drew1 | refine below_set ?_ GE264.out) | exact HB.out)) hb); clear BK264; clear HB; have BK264 := n0_; have HB := n1_; clear n0_ n1_; (try clear hb); (try clear hb2); (try clear hk); (try clear hi)))
              go_ret
              exact ⟨by first | rfl | (simp [errW_none, errW_some] <;> rfl) | (simp [*, errW_none, errW_some] <;> rfl), by repeat (first | (with_reducible first | exact HB.out | apply below_alloc | apply pw_below_drewN | apply below_drew1 | refine below_set ?_ GE264.out) | exact HB.out)⟩

end Go.Proofs.YtgdpknmffohhaaaDoor.Pl

namespace Go.Proofs.YtgdpknmffohhaaaDoor.Pl
open Go.RowKit Go.Proofs.YtgdpknmffohhaaaDoorW.PrintWords Go.Proofs.YtgdpknmffohhaaaDoorW.PrintLast Go.Proofs.YtgdpknmffohhaaaDoorW.PrintMore
attribute [local go_sem] max2_int min2_int max_two min_two max_three min_three max_four min_four   -- for this text's walks alone
set_option linter.unusedVariables false
set_option linter.unusedSimpArgs false

/-! ### quillworkref05_Own: function 55 -/
def quillworkref05_Own.f (l0 : List (S71)) : Option ((List (S71))) := (some (([] : List (S71)) : List (S71))).bind fun y193 => (if y193.length + l0.length < 4398046511104 then (some (y193 ++ l0)) else (none))
set_option maxHeartbeats 8000000 in
set_option maxRecDepth 100000 in
theorem quillworkref05_Own.calls (A0 : Option Addr) (c0 : Nat) (l0 : List (S71)) (r : List (S71)) (w : World) (hr0 : Kd.C k71 w A0 l0.length l0) (hc0 : l0.length ≤ c0) (h : quillworkref05_Own.f l0 = some r) :
    Calls Tryd.prog 55 #[.slice A0 l0.length c0] w fun e w' => ∃ v0_ : Value, e = .returned (v0_) ∧ Kd.R k71 71 w' w.heap.size (fun _ => True) v0_ r ∧ Below w.heap.size w w' := by
  have HR0 := Aside0.mk hr0
  have HC0 := Aside0.mk hc0
  clear hr0 hc0
  have HB := Aside0.mk (Below.refl w.heap.size w)
  have H : ((some (([] : List (S71)) : List (S71))).bind fun y193 => (if y193.length + l0.length < 4398046511104 then (some (y193 ++ l0)) else (none))) = some r := h
  clear h
  obtain ⟨y193, hy193⟩ : ∃ y_ : List (S71), y_ = (([] : List (S71))) := ⟨_, rfl⟩
  replace H : (if y193.length + l0.length < 4398046511104 then (some (y193 ++ l0)) else (none)) = some r := by first | (rw [hy193]; with_reducible exact H) | (have H2_ := (Option.bind_some _ _).symm.trans H; rw [hy193]; with_reducible exact H2_) | (have H2_ := (Option.bind_some _ _).symm.trans H; with_reducible exact H2_) | with_reducible exact H | (rw [hy193]; exact H) | exact H
  have Ny193 := Aside0.mk hy193
  clear hy193
  by_cases c2 : y193.length + l0.length < 4398046511104
  · rw [if_pos c2] at H
    have LMc2 := Aside0.mk c2
    clear c2
    obtain ⟨y196, hy196⟩ : ∃ y_ : List (S71), y_ = (y193 ++ l0) := ⟨_, rfl⟩
    replace H : (some y196) = some r := by first | (rw [hy196]; with_reducible exact H) | (have H2_ := (Option.bind_some _ _).symm.trans H; rw [hy196]; with_reducible exact H2_) | (have H2_ := (Option.bind_some _ _).symm.trans H; with_reducible exact H2_) | with_reducible exact H | (rw [hy196]; exact H) | exact H
    have Ny196 := Aside0.mk hy196
    clear hy196
    obtain rfl := Option.some.inj H
    go_enter Tryd.func55, Tryd.ntmps55
    go_wp2_with (first | ((with_reducible refine gate_dst (N := 3) rfl ?_); refine Kd.R_lit k71 _ 71 ?hg (N := 3) ?hd (xs := ([] : List (S71))) (inner := []) (ok := fun _ => True) (okp := fun _ => True) ?hr ?hp (fun _ hk => hk) trivial (Below.refl _ _) (Nat.le_refl _) (by simp) ?_; (case hd => rfl); (case hg => rfl); (case hr => first | (go_simp; done) | (go_simp; rfl)); (case hp => exact (Reps.none _ _)); intro v194 w3 ho4 hb hg_ hnew_; clear hg_ hnew_; (first | rw [← Ny193.out] at ho4 | (simp only [Int.reduceToNat] at ho4; rw [← Ny193.out] at ho4)); have n0_ := Aside0.mk (Kd.R_lower ho4 (below_size (by repeat (first | (with_reducible first | exact HB.out | apply below_alloc | apply pw_below_drewN | apply below_drew1) | exact HB.out)))); have n1_ := Aside0.mk (below_step (by repeat (first | (with_reducible first | exact HB.out | apply below_alloc | apply pw_below_drewN | apply below_drew1) | exact HB.out)) hb); clear HB; have HO195 := n0_; have HB := n1_; clear n0_ n1_; clear hb ho4) | ((with_reducible refine gate_builtin (b := .append) (xs := #[.tmp 3, .tmp 4]) rfl ?_); at_builtin; refine Kd.R_append_rows k71 (w0 := w) w.heap.size rfl (.tmp 3) (.tmp 4) 36 71 (.agg #[(.int .i32 0), (.int .i64 0), (.string ⟨#[]⟩)]) 32 rfl Tryd.underlying36 info71 rfl (by decide) (by omega) v194 y193 l0 _ _ _ (fun _ => True) (fun _ => False) rfl rfl ?aO ?aR (fun _ _ h => h) (fun _ h => h.elim) ?aF ?aB ?aS ?aL ?_; (case aR => repeat (first | exact (Kd.C_below HR0.out HB.out) | (with_reducible refine Kd.C_alloc ?_ _) | (with_reducible refine Kd.C_drewN ?_ _) | (with_reducible refine Kd.C_drew ?_))); (case aB => exact (by repeat (first | (with_reducible first | exact HB.out | apply below_alloc | apply pw_below_drewN | apply below_drew1) | exact HB.out))); (case aF => exact (fun _ _ => trivial)); (case aO => exact (by (with_reducible repeat (first | apply Kd.R_alloc | apply Kd.R_drewN | apply Kd.R_drew)); exact HO195.out)); (case aS => exact (below_size (by repeat (first | (with_reducible first | exact HB.out | apply below_alloc | apply pw_below_drewN | apply below_drew1) | exact HB.out)))); (case aL => have := LMc2.out; omega); intro v197 w5 ho hb hg hat; rw [← Ny196.out] at ho; have n0_ := Aside0.mk (hb); have n1_ := Aside0.mk (ho); clear HB; clear HO195; have HB := n0_; have HO198 := n1_; clear n0_ n1_; clear ho hb hg hat))
    go_ret
    exact ⟨_, by first | rfl | (simp [errW_none, errW_some] <;> rfl) | (simp [*, errW_none, errW_some] <;> rfl), by (with_reducible repeat (first | apply Kd.R_alloc | apply Kd.R_drewN | apply Kd.R_drew)); exact HO198.out, by repeat (first | (with_reducible first | exact HB.out | apply below_alloc | apply pw_below_drewN | apply below_drew1) | exact HB.out)⟩
  · rw [if_neg c2] at H
    exact absurd H (by simp)

end Go.Proofs.YtgdpknmffohhaaaDoor.Pl

namespace Go.Proofs.YtgdpknmffohhaaaDoor.Pl
open Go.RowKit Go.Proofs.YtgdpknmffohhaaaDoorW.PrintWords Go.Proofs.YtgdpknmffohhaaaDoorW.PrintLast Go.Proofs.YtgdpknmffohhaaaDoorW.PrintMore
attribute [local go_sem] max2_int min2_int max_two min_two max_three min_three max_four min_four   -- for this text's walks alone
set_option linter.unusedVariables false
set_option linter.unusedSimpArgs false

/-! ### quillworkref06_Own: function 26 -/
def quillworkref06_Own.f (a0_0 : Int) (l0_1 : List Int) (a0_2 : Int) (l0_3 : List (S71)) : Option (Int × List Int × Int × (List (S71))) := (some (([] : List Int) : List Int)).bind fun y314 => (if y314.length + l0_1.length < 17592186044416 then ((quillworkref05_Own.f l0_3).bind fun t320 => (some (a0_0, (y314 ++ l0_1), a0_2, t320))) else (none))
def quillworkref06_Own.T1 : Bool × List (List Nat × List Nat) := (true, [([], []), ([0], [0]), ([], []), ([], []), ([3], [3]), ([2, 4], [2, 4]), ([], []), ([6], [6]), ([], []), ([8], [8]), ([9, 5], [9]), ([1, 5, 7, 10], [1, 5, 7, 10]), ([11, 10, 0, 1, 2, 3, 4, 5, 6, 7, 8, 9, 10, 11], [11])])
def quillworkref06_Own.B1 : List Nat := [0, 1, 0, 0, 8, 28, 0, 64, 0, 256, 828, 2047, 4095]
theorem quillworkref06_Own.tab1 : rtab .any (opsOf Tryd.f26 1) = quillworkref06_Own.T1 := by kernel_rfl
theorem quillworkref06_Own.bits1 : waitsOk quillworkref06_Own.T1.2 quillworkref06_Own.B1 = true := by kernel_rfl
set_option maxHeartbeats 8000000 in
set_option maxRecDepth 100000 in
theorem quillworkref06_Own.calls (a0_0 : Int) (A0_1 : Option Addr) (c0_1 : Nat) (l0_1 : List Int) (a0_2 : Int) (A0_3 : Option Addr) (c0_3 : Nat) (l0_3 : List (S71)) (r1 : Int) (r2 : List Int) (r3 : Int) (r4 : List (S71)) (w : World) (hr0_1 : Kd.C (Kd.int .i64) w A0_1 l0_1.length l0_1) (hc0_1 : l0_1.length ≤ c0_1) (hr0_3 : Kd.C k71 w A0_3 l0_3.length l0_3) (hc0_3 : l0_3.length ≤ c0_3) (h : quillworkref06_Own.f a0_0 l0_1 a0_2 l0_3 = some (r1, r2, r3, r4)) :
    Calls Tryd.prog 26 #[.agg #[.int .i64 a0_0, .slice A0_1 l0_1.length c0_1, .int .i64 a0_2, .slice A0_3 l0_3.length c0_3]] w fun e w' => ∃ v1_ v3_ : Value, e = .returned (.agg #[.int .i64 r1, v1_, .int .i64 r3, v3_]) ∧ Kd.R (Kd.int .i64) 3 w' w.heap.size (fun _ => True) v1_ r2 ∧ Kd.R k71 71 w' w.heap.size (fun _ => True) v3_ r4 ∧ Below w.heap.size w w' := by
  have hu38 := Tryd.underlying38
  have HR0_1 := Aside0.mk hr0_1
  have HC0_1 := Aside0.mk hc0_1
  clear hr0_1 hc0_1
  have HR0_3 := Aside0.mk hr0_3
  have HC0_3 := Aside0.mk hc0_3
  clear hr0_3 hc0_3
  have HB := Aside0.mk (Below.refl w.heap.size w)
  have H : ((some (([] : List Int) : List Int)).bind fun y314 => (if y314.length + l0_1.length < 17592186044416 then ((quillworkref05_Own.f l0_3).bind fun t320 => (some (a0_0, (y314 ++ l0_1), a0_2, t320))) else (none))) = some (r1, r2, r3, r4) := h
  clear h
  obtain ⟨y314, hy314⟩ : ∃ y_ : List Int, y_ = (([] : List Int)) := ⟨_, rfl⟩
  replace H : (if y314.length + l0_1.length < 17592186044416 then ((quillworkref05_Own.f l0_3).bind fun t320 => (some (a0_0, (y314 ++ l0_1), a0_2, t320))) else (none)) = some (r1, r2, r3, r4) := by first | (rw [hy314]; with_reducible exact H) | (have H2_ := (Option.bind_some _ _).symm.trans H; rw [hy314]; with_reducible exact H2_) | (have H2_ := (Option.bind_some _ _).symm.trans H; with_reducible exact H2_) | with_reducible exact H | (rw [hy314]; exact H) | exact H
  have Ny314 := Aside0.mk hy314
  clear hy314
  by_cases c2 : y314.length + l0_1.length < 17592186044416
  · rw [if_pos c2] at H
    have LMc2 := Aside0.mk c2
    clear c2
    obtain ⟨y317, hy317⟩ : ∃ y_ : List Int, y_ = (y314 ++ l0_1) := ⟨_, rfl⟩
    replace H : ((quillworkref05_Own.f l0_3).bind fun t320 => (some (a0_0, y317, a0_2, t320))) = some (r1, r2, r3, r4) := by first | (rw [hy317]; with_reducible exact H) | (have H2_ := (Option.bind_some _ _).symm.trans H; rw [hy317]; with_reducible exact H2_) | (have H2_ := (Option.bind_some _ _).symm.trans H; with_reducible exact H2_) | with_reducible exact H | (rw [hy317]; exact H) | exact H
    have Ny317 := Aside0.mk hy317
    clear hy317
    replace H := Option.bind_eq_some_iff.mp H
    obtain ⟨t320, A30, H⟩ := H
    replace H : (some (a0_0, y317, a0_2, t320)) = some (r1, r2, r3, r4) := H
    have A3 := Aside0.mk A30
    clear A30
    simp only [Option.some.injEq, Prod.mk.injEq] at H
    obtain ⟨rfl, rfl, rfl, rfl⟩ := H
    go_enter Tryd.func26, Tryd.ntmps26
    try go_wp2_with (first | ((with_reducible refine gate_dst (N := 1) rfl ?_); refine box_event ?hg (N := 1) ?hd (cs := #[.int .i64 a0_0, .slice A0_1 l0_1.length c0_1, .int .i64 a0_2, .slice A0_3 l0_3.length c0_3]) (t := 38) ?hr ?_; (case hd => rfl); (case hg => rfl); (case hr => first | (go_simp; done) | (go_simp; rfl)); intro gb312 hg w4 hbox hb; have n0_ := Aside0.mk (below_step (by repeat (first | (with_reducible first | exact HB.out | apply below_alloc | apply pw_below_drewN | apply below_drew1) | exact HB.out)) hb); have n1_ := Aside0.mk (hbox); have n2_ := Aside0.mk ((by rw [hg]; exact (below_size (by repeat (first | (with_reducible first | exact HB.out | apply below_alloc | apply pw_below_drewN | apply below_drew1) | exact HB.out))) : w.heap.size ≤ gb312)); have n3_ := Aside0.mk ((by rw [hg]; exact (below_size (by repeat (first | (with_reducible first | exact HB.out | apply below_alloc | apply pw_below_drewN | apply below_drew1) | exact HB.out))) : w.heap.size ≤ gb312)); clear HB; have HB := n0_; have BK312 := n1_; have GW312 := n2_; have GE312 := n3_; clear n0_ n1_ n2_ n3_; clear hb hbox hg) | ((with_reducible refine gate_dst (N := 2) rfl ?_); refine box_event ?hg (N := 2) ?hd (cs := #[.int .i64 0, .slice none 0 0, .int .i64 0, .slice none 0 0]) (t := 38) ?hr ?_; (case hd => rfl); (case hg => rfl); (case hr => first | (go_simp; done) | (go_simp; rfl)); intro gb313 hg w5 hbox hb; have n0_ := Aside0.mk (blk_below (g := gb312) (o := .cells #[.int .i64 a0_0, .slice A0_1 l0_1.length c0_1, .int .i64 a0_2, .slice A0_3 l0_3.length c0_3] 38 (0, 0)) (by (with_reducible repeat (first | refine blk_drewN ?_ _ | refine blk_drew ?_ | refine blk_alloc ?_ _)); exact BK312.out) hb); have n1_ := Aside0.mk (below_step (by repeat (first | (with_reducible first | exact HB.out | apply below_alloc | apply pw_below_drewN | apply below_drew1 | refine below_set ?_ GE312.out) | exact HB.out)) hb); have n2_ := Aside0.mk (hbox); have n3_ := Aside0.mk ((by rw [hg]; exact (below_size (by repeat (first | (with_reducible first | exact HB.out | apply below_alloc | apply pw_below_drewN | apply below_drew1 | refine below_set ?_ GE312.out) | exact HB.out))) : w.heap.size ≤ gb313)); have n4_ := Aside0.mk ((by rw [hg]; exact (below_size (by repeat (first | (with_reducible first | exact HB.out | apply below_alloc | apply pw_below_drewN | apply below_drew1 | refine below_set ?_ GE312.out) | exact HB.out))) : w.heap.size ≤ gb313)); have n5_ := Aside0.mk ((by rw [hg]; exact Nat.ne_of_lt (blk_lt (g := gb312) (o := .cells #[.int .i64 a0_0, .slice A0_1 l0_1.length c0_1, .int .i64 a0_2, .slice A0_3 l0_3.length c0_3] 38 (0, 0)) (by (with_reducible repeat (first | refine blk_drewN ?_ _ | refine blk_drew ?_ | refine blk_alloc ?_ _)); exact BK312.out)) : gb312 ≠ gb313)); have n6_ := Aside0.mk ((by rw [hg]; exact Nat.ne_of_gt (blk_lt (g := gb312) (o := .cells #[.int .i64 a0_0, .slice A0_1 l0_1.length c0_1, .int .i64 a0_2, .slice A0_3 l0_3.length c0_3] 38 (0, 0)) (by (with_reducible repeat (first | refine blk_drewN ?_ _ | refine blk_drew ?_ | refine blk_alloc ?_ _)); exact BK312.out)) : gb313 ≠ gb312)); clear BK312; clear HB; have BK312 := n0_; have HB := n1_; have BK313 := n2_; have GW313 := n3_; have GE313 := n4_; have NB312_313 := n5_; have NB313_312 := n6_; clear n0_ n1_ n2_ n3_ n4_ n5_ n6_; clear hb hbox hg))
    have n0_ := Aside0.mk (blk_drew BK312.out)
    have n1_ := Aside0.mk (blk_drew BK313.out)
    have n2_ := Aside0.mk (below_drew1 HB.out)
    clear BK312
    clear BK313
    clear HB
    have BK312 := n0_
    have BK313 := n1_
    have HB := n2_
    clear n0_ n1_ n2_
    refine start_ (n := 13) (S := fun w' => w'.cell? ⟨gb312, 0, none⟩ = some (.int .i64 a0_0) ∧ w'.cell? ⟨gb312, 1, none⟩ = some (.slice A0_1 l0_1.length c0_1) ∧ w'.cell? ⟨gb312, 2, none⟩ = some (.int .i64 a0_2) ∧ w'.cell? ⟨gb312, 3, none⟩ = some (.slice A0_3 l0_3.length c0_3)) (ds := []) #[false, false, false, false, false, false, false, false, false, false, false, false, false] (by kernel_rfl) rfl rfl ⟨(blk_cell BK312.out 0).trans rfl, (blk_cell BK312.out 1).trans rfl, (blk_cell BK312.out 2).trans rfl, (blk_cell BK312.out 3).trans rfl⟩ (fun hHeld => ?_); refine with_tabW quillworkref06_Own.tab1 quillworkref06_Own.bits1 (fun HT_ HW_ => ?_)
    generalize w5.drew = w6 at BK312 BK313 HB hHeld ⊢
    refine pure_ (i := 0) (N := some 3) (v := ?_) (a' := ?_) #[true, false, false, false, false, false, false, false, false, false, false, false, false] rfl rfl (any_of HT_.out (by kernel_rfl)) (fun _ _ _ h => h) (Or.inl ⟨by rfl, ?_⟩) ?_ ?_
    rotate_left
    · intro w'
      go_simp
      with_reducible rfl
    rotate_left
    · simp only [Act.put, List.setIfInBounds_toArray, List.set_cons_zero, List.set_cons_succ, i64_w, i32_w]
      rfl
    refine pure_ (i := 3) (N := some 6) (v := ?_) (a' := ?_) #[true, false, false, true, false, false, false, false, false, false, false, false, false] rfl rfl (any_of HT_.out (by kernel_rfl)) (fun _ _ _ h => h) (Or.inl ⟨by rfl, ?_⟩) ?_ ?_
    rotate_left
    · intro w'
      go_simp
      with_reducible rfl
    rotate_left
    · simp only [Act.put, List.setIfInBounds_toArray, List.set_cons_zero, List.set_cons_succ, i64_w, i32_w]
      rfl
    refine pure_ (i := 6) (N := some 9) (v := ?_) (a' := ?_) #[true, false, false, true, false, false, true, false, false, false, false, false, false] rfl rfl (any_of HT_.out (by kernel_rfl)) (fun _ _ _ h => h) (Or.inl ⟨by rfl, ?_⟩) ?_ ?_
    rotate_left
    · intro w'
      go_simp
      with_reducible rfl
    rotate_left
    · simp only [Act.put, List.setIfInBounds_toArray, List.set_cons_zero, List.set_cons_succ, i64_w, i32_w]
      rfl
    refine pure_ (i := 8) (N := some 11) (v := ?_) (a' := ?_) #[true, false, false, true, false, false, true, false, true, false, false, false, false] rfl rfl (any_of HT_.out (by kernel_rfl)) (fun _ _ _ h => h) (Or.inl ⟨by rfl, ?_⟩) ?_ ?_
    rotate_left
    · intro w'
      go_simp
      with_reducible rfl
    rotate_left
    · simp only [Act.put, List.setIfInBounds_toArray, List.set_cons_zero, List.set_cons_succ, i64_w, i32_w]
      rfl
    refine take_ (i := 1) (N := some 4) (v := ?_) (a' := ?_) #[true, true, false, true, false, false, true, false, true, false, false, false, false] rfl rfl (take_ofW HT_.out HW_.out (by kernel_rfl)) (fun _ _ _ h => h) (Or.inl ⟨by rfl, ?_⟩) hHeld ?_ ?_
    rotate_left
    · rintro w' ⟨s0, s1, s2, s3⟩
      go_simp
      with_reducible rfl
    rotate_left
    · simp only [Act.put, List.setIfInBounds_toArray, List.set_cons_zero, List.set_cons_succ, i64_w, i32_w]
      rfl
    refine take_ (i := 4) (N := some 7) (v := ?_) (a' := ?_) #[true, true, false, true, true, false, true, false, true, false, false, false, false] rfl rfl (take_ofW HT_.out HW_.out (by kernel_rfl)) (fun _ _ _ h => h) (Or.inl ⟨by rfl, ?_⟩) hHeld ?_ ?_
    rotate_left
    · rintro w' ⟨s0, s1, s2, s3⟩
      go_simp
      with_reducible rfl
    rotate_left
    · simp only [Act.put, List.setIfInBounds_toArray, List.set_cons_zero, List.set_cons_succ, i64_w, i32_w]
      rfl
    refine take_ (i := 7) (N := some 10) (v := ?_) (a' := ?_) #[true, true, false, true, true, false, true, true, true, false, false, false, false] rfl rfl (take_ofW HT_.out HW_.out (by kernel_rfl)) (fun _ _ _ h => h) (Or.inl ⟨by rfl, ?_⟩) hHeld ?_ ?_
    rotate_left
    · rintro w' ⟨s0, s1, s2, s3⟩
      go_simp
      with_reducible rfl
    rotate_left
    · simp only [Act.put, List.setIfInBounds_toArray, List.set_cons_zero, List.set_cons_succ, i64_w, i32_w]
      rfl
    refine take_ (i := 9) (N := some 12) (v := ?_) (a' := ?_) #[true, true, false, true, true, false, true, true, true, true, false, false, false] rfl rfl (take_ofW HT_.out HW_.out (by kernel_rfl)) (fun _ _ _ h => h) (Or.inl ⟨by rfl, ?_⟩) hHeld ?_ ?_
    rotate_left
    · rintro w' ⟨s0, s1, s2, s3⟩
      go_simp
      with_reducible rfl
    rotate_left
    · simp only [Act.put, List.setIfInBounds_toArray, List.set_cons_zero, List.set_cons_succ, i64_w, i32_w]
      rfl
    refine one_ (i := 2) (N := some 5) #[true, true, true, true, true, false, true, true, true, true, false, false, false] rfl rfl (one_of HT_.out (by kernel_rfl)) (by decide) (fun K hK => ?_)
    refine Kd.R_lit_step (Kd.int .i64) _ 3 ?hg (N := 5) ?hd (xs := ([] : List Int)) (inner := []) (ok := fun _ => True) (okp := fun _ => True) ?hr ?hp (fun _ hk => hk) trivial (Below.refl _ _) (Nat.le_refl _) (by simp) ?_; (case hd => rfl); (case hg => rfl); (case hr => first | (go_simp; done) | (go_simp; rfl)); (case hp => exact (Reps.none _ _))
    intro v315 w7 ho8 hb hg_ hnew_
    clear hg_ hnew_
    (first | rw [← Ny314.out] at ho8 | (simp only [Int.reduceToNat] at ho8; rw [← Ny314.out] at ho8))
    have n0_ := Aside0.mk (Kd.R_lower ho8 (below_size (by repeat (first | (with_reducible first | exact HB.out | apply below_alloc | apply pw_below_drewN | apply below_drew1 | refine below_set ?_ GE312.out | refine below_set ?_ GE313.out) | exact HB.out))))
    have n1_ := Aside0.mk (blk_below (g := gb312) (o := .cells #[.int .i64 a0_0, .slice A0_1 l0_1.length c0_1, .int .i64 a0_2, .slice A0_3 l0_3.length c0_3] 38 (0, 0)) (by (with_reducible repeat (first | refine blk_drewN ?_ _ | refine blk_drew ?_ | refine blk_alloc ?_ _)); exact BK312.out) hb)
    have n2_ := Aside0.mk (blk_below (g := gb313) (o := .cells #[.int .i64 0, .slice none 0 0, .int .i64 0, .slice none 0 0] 38 (0, 0)) (by (with_reducible repeat (first | refine blk_drewN ?_ _ | refine blk_drew ?_ | refine blk_alloc ?_ _)); exact BK313.out) hb)
    have n3_ := Aside0.mk (below_step (by repeat (first | (with_reducible first | exact HB.out | apply below_alloc | apply pw_below_drewN | apply below_drew1 | refine below_set ?_ GE312.out | refine below_set ?_ GE313.out) | exact HB.out)) hb)
    clear BK312
    clear BK313
    clear HB
    have HO316 := n0_
    have BK312 := n1_
    have BK313 := n2_
    have HB := n3_
    clear n0_ n1_ n2_ n3_
    clear hb ho8
    refine hK.out _ _ ⟨(blk_cell BK312.out 0).trans rfl, (blk_cell BK312.out 1).trans rfl, (blk_cell BK312.out 2).trans rfl, (blk_cell BK312.out 3).trans rfl⟩ (fun hHeld => ?_)
    clear hK K
    refine norm_ (a' := ?_) ?_ ?_
    rotate_left
    · show Act.put _ (some 5) _ = _
      simp only [Act.put, List.setIfInBounds_toArray, List.set_cons_zero, List.set_cons_succ, i64_w, i32_w]
      rfl
    refine one_ (i := 5) (N := some 8) #[true, true, true, true, true, true, true, true, true, true, false, false, false] rfl rfl (one_of HT_.out (by kernel_rfl)) (by decide) (fun K hK => ?_)
    refine Kd.R_append_rows_step (Kd.int .i64) (w0 := w) w.heap.size (by rfl) (.tmp 5) (.tmp 7) 35 3 (.int .i64 0) 8 rfl Tryd.underlying35 info3 rfl (by decide) (by omega) v315 y314 l0_1 _ _ _ (fun _ => True) (fun _ => False) rfl rfl ?aO ?aR (fun _ _ h => h) (fun _ h => h.elim) ?aF ?aB ?aS ?aL ?_
    (case aR => repeat (first | exact (Kd.C_below HR0_1.out HB.out) | (with_reducible refine Kd.C_alloc ?_ _) | (with_reducible refine Kd.C_drewN ?_ _) | (with_reducible refine Kd.C_drew ?_)))
    (case aB => exact (by repeat (first | (with_reducible first | exact HB.out | apply below_alloc | apply pw_below_drewN | apply below_drew1 | refine below_set ?_ GE312.out | refine below_set ?_ GE313.out) | exact HB.out)))
    (case aF => exact (fun _ _ => trivial))
    (case aO => exact (by (with_reducible repeat (first | apply Kd.R_alloc | apply Kd.R_drewN | apply Kd.R_drew)); exact HO316.out))
    (case aS => exact (below_size (by repeat (first | (with_reducible first | exact HB.out | apply below_alloc | apply pw_below_drewN | apply below_drew1 | refine below_set ?_ GE312.out | refine below_set ?_ GE313.out) | exact HB.out))))
    (case aL => have := LMc2.out; omega)
    intro v318 w9 ho hb hg hat
    rw [← Ny317.out] at ho
    have n0_ := Aside0.mk (blk_grown (g := gb312) (o := .cells #[.int .i64 a0_0, .slice A0_1 l0_1.length c0_1, .int .i64 a0_2, .slice A0_3 l0_3.length c0_3] 38 (0, 0)) (by (with_reducible repeat (first | refine blk_drewN ?_ _ | refine blk_drew ?_ | refine blk_alloc ?_ _)); exact BK312.out) hg (Kd.R_ne HO316.out BK312.out (by decide)))
    have n1_ := Aside0.mk (blk_grown (g := gb313) (o := .cells #[.int .i64 0, .slice none 0 0, .int .i64 0, .slice none 0 0] 38 (0, 0)) (by (with_reducible repeat (first | refine blk_drewN ?_ _ | refine blk_drew ?_ | refine blk_alloc ?_ _)); exact BK313.out) hg (Kd.R_ne HO316.out BK313.out (by decide)))
    have n2_ := Aside0.mk (hb)
    have n3_ := Aside0.mk (ho)
    clear BK312
    clear BK313
    clear HB
    clear HO316
    have BK312 := n0_
    have BK313 := n1_
    have HB := n2_
    have HO319 := n3_
    clear n0_ n1_ n2_ n3_
    clear ho hb hg hat
    refine hK.out _ _ ⟨(blk_cell BK312.out 0).trans rfl, (blk_cell BK312.out 1).trans rfl, (blk_cell BK312.out 2).trans rfl, (blk_cell BK312.out 3).trans rfl⟩ (fun hHeld => ?_)
    clear hK K
    refine norm_ (a' := ?_) ?_ ?_
    rotate_left
    · show Act.put _ (some 8) _ = _
      simp only [Act.put, List.setIfInBounds_toArray, List.set_cons_zero, List.set_cons_succ, i64_w, i32_w]
      rfl
    refine one_ (i := 10) (N := some 13) #[true, true, true, true, true, true, true, true, true, true, true, false, false] rfl rfl (one_of HT_.out (by kernel_rfl)) (by decide) (fun K hK => ?_)
    refine goes_ Tryd.func55 (by kernel_rfl) rfl #[.slice A0_3 l0_3.length c0_3] (by rfl) rfl rfl (by (try simp only [List.map_toArray, List.map_cons, List.map_nil]); first | done | rfl | (simp only [List.length_drop, List.length_take]; rfl)) ?_
    with_reducible refine (quillworkref05_Own.calls _ _ l0_3 t320 _ ?side1 ?side2 A3.out).mono ?_
    (case side1 => repeat (first | exact (Kd.C_below HR0_3.out HB.out) | (with_reducible refine Kd.C_alloc ?_ _) | (with_reducible refine Kd.C_drewN ?_ _) | (with_reducible refine Kd.C_drew ?_)))
    (case side2 => exact HC0_3.out)
    rintro e w10 ⟨v321, rfl, ho0, hb⟩
    refine ⟨_, rfl, ?_⟩
    have n0_ := Aside0.mk (Kd.R_below (by (with_reducible repeat (first | apply Kd.R_alloc | apply Kd.R_drewN | apply Kd.R_drew)); exact HO319.out) hb)
    have n1_ := Aside0.mk (Kd.R_lower ho0 (below_size (by repeat (first | (with_reducible first | exact HB.out | apply below_alloc | apply pw_below_drewN | apply below_drew1 | refine below_set ?_ GE312.out | refine below_set ?_ GE313.out) | exact HB.out))))
    have n2_ := Aside0.mk (blk_below (g := gb312) (o := .cells #[.int .i64 a0_0, .slice A0_1 l0_1.length c0_1, .int .i64 a0_2, .slice A0_3 l0_3.length c0_3] 38 (0, 0)) (by (with_reducible repeat (first | refine blk_drewN ?_ _ | refine blk_drew ?_ | refine blk_alloc ?_ _)); exact BK312.out) hb)
    have n3_ := Aside0.mk (blk_below (g := gb313) (o := .cells #[.int .i64 0, .slice none 0 0, .int .i64 0, .slice none 0 0] 38 (0, 0)) (by (with_reducible repeat (first | refine blk_drewN ?_ _ | refine blk_drew ?_ | refine blk_alloc ?_ _)); exact BK313.out) hb)
    have n4_ := Aside0.mk (below_step (by repeat (first | (with_reducible first | exact HB.out | apply below_alloc | apply pw_below_drewN | apply below_drew1 | refine below_set ?_ GE312.out | refine below_set ?_ GE313.out) | exact HB.out)) hb)
    clear HO319
    clear BK312
    clear BK313
    clear HB
    have HO319 := n0_
    have HO322 := n1_
    have BK312 := n2_
    have BK313 := n3_
    have HB := n4_
    clear n0_ n1_ n2_ n3_ n4_
    (try clear hb)
    (try clear hb2)
    (try clear hk)
    (try clear hi)
    (try clear ho0)
    obtain ⟨Ao11, co11, eo11⟩ := Kd.R_slice HO322.out
    (first | subst eo11 | (injection eo11 with f1_ f2_ f3_; have f4_ := f1_.symm; have f5_ := f3_.symm; clear f1_ f2_ f3_; subst f4_; subst f5_))
    obtain ⟨Ao12, co12, eo12⟩ := Kd.R_slice HO319.out
    (first | subst eo12 | (injection eo12 with f1_ f2_ f3_; have f4_ := f1_.symm; have f5_ := f3_.symm; clear f1_ f2_ f3_; subst f4_; subst f5_))
    refine hK.out _ _ ⟨(blk_cell BK312.out 0).trans rfl, (blk_cell BK312.out 1).trans rfl, (blk_cell BK312.out 2).trans rfl, (blk_cell BK312.out 3).trans rfl⟩ (fun hHeld => ?_)
    clear hK K
    refine norm_ (a' := ?_) ?_ ?_
    rotate_left
    · show Act.put _ (some 13) _ = _
      simp only [Act.put, List.setIfInBounds_toArray, List.set_cons_zero, List.set_cons_succ, i64_w, i32_w]
      rfl
    refine pure_ (i := 11) (N := some 14) (v := ?_) (a' := ?_) #[true, true, true, true, true, true, true, true, true, true, true, true, false] rfl rfl (any_of HT_.out (by kernel_rfl)) (fun _ _ _ h => h) (Or.inl ⟨by rfl, ?_⟩) ?_ ?_
    rotate_left
    · intro w'
      go_simp
      with_reducible rfl
    rotate_left
    · simp only [Act.put, List.setIfInBounds_toArray, List.set_cons_zero, List.set_cons_succ, i64_w, i32_w]
      rfl
    refine one_ (i := 12) (N := none) #[true, true, true, true, true, true, true, true, true, true, true, true, true] rfl rfl (one_of HT_.out (by kernel_rfl)) (by decide) (fun K hK => ?_)
    have hs13 : w10.cell? ⟨gb313, 0, none⟩ = some (.int .i64 0) := (blk_cell BK313.out 0).trans rfl
    have hfs13 := blk_frozen BK313.out 0
    have hns13_0 := NB312_313.out
    have hms13_0 := NB313_312.out
    have hs14 : w10.cell? ⟨gb313, 1, none⟩ = some (.slice none 0 0) := (blk_cell BK313.out 1).trans rfl
    have hfs14 := blk_frozen BK313.out 1
    have hns14_0 := NB312_313.out
    have hms14_0 := NB313_312.out
    have hs15 : w10.cell? ⟨gb313, 2, none⟩ = some (.int .i64 0) := (blk_cell BK313.out 2).trans rfl
    have hfs15 := blk_frozen BK313.out 2
    have hns15_0 := NB312_313.out
    have hms15_0 := NB313_312.out
    have hs16 : w10.cell? ⟨gb313, 3, none⟩ = some (.slice none 0 0) := (blk_cell BK313.out 3).trans rfl
    have hfs16 := blk_frozen BK313.out 3
    have hns16_0 := NB312_313.out
    have hms16_0 := NB313_312.out
    refine skip_ (w1 := ?_) (by rfl) rfl ?_ ?_
    rotate_left
    · go_simp
      rfl
    refine hK.out _ _ ⟨((cell_far (p := ⟨gb313, _, none⟩) NB312_313.out _).trans (((cell_far (p := ⟨gb313, _, none⟩) NB312_313.out _).trans (((cell_far (p := ⟨gb313, _, none⟩) NB312_313.out _).trans (((cell_far (p := ⟨gb313, _, none⟩) NB312_313.out _).trans (hHeld.1)))))))), ((cell_far (p := ⟨gb313, _, none⟩) NB312_313.out _).trans (((cell_far (p := ⟨gb313, _, none⟩) NB312_313.out _).trans (((cell_far (p := ⟨gb313, _, none⟩) NB312_313.out _).trans (((cell_far (p := ⟨gb313, _, none⟩) NB312_313.out _).trans (hHeld.2.1)))))))), ((cell_far (p := ⟨gb313, _, none⟩) NB312_313.out _).trans (((cell_far (p := ⟨gb313, _, none⟩) NB312_313.out _).trans (((cell_far (p := ⟨gb313, _, none⟩) NB312_313.out _).trans (((cell_far (p := ⟨gb313, _, none⟩) NB312_313.out _).trans (hHeld.2.2.1)))))))), ((cell_far (p := ⟨gb313, _, none⟩) NB312_313.out _).trans (((cell_far (p := ⟨gb313, _, none⟩) NB312_313.out _).trans (((cell_far (p := ⟨gb313, _, none⟩) NB312_313.out _).trans (((cell_far (p := ⟨gb313, _, none⟩) NB312_313.out _).trans (hHeld.2.2.2))))))))⟩ (fun hHeld => ?_)
    clear hK K
    refine done_ (done_of HT_.out (by kernel_rfl)) ?_
    try go_wp2
    refine bodyPost_ret (results_cell_row rfl _ _ gb313 38 #[.int .i64 a0_0, .slice Ao12 y317.length co12, .int .i64 a0_2, .slice Ao11 t320.length co11] (0, 0) _ rfl (by (with_reducible repeat (first | refine blk_drewN ?_ _ | refine blk_drew ?_ | refine blk_alloc ?_ _)); refine blk_put (cs := #[.int .i64 a0_0, .slice Ao12 y317.length co12, .int .i64 a0_2, .slice none 0 0]) ?_ 3 _ rfl; (with_reducible repeat (first | refine blk_drewN ?_ _ | refine blk_drew ?_ | refine blk_alloc ?_ _)); refine blk_put (cs := #[.int .i64 a0_0, .slice Ao12 y317.length co12, .int .i64 0, .slice none 0 0]) ?_ 2 _ rfl; (with_reducible repeat (first | refine blk_drewN ?_ _ | refine blk_drew ?_ | refine blk_alloc ?_ _)); refine blk_put (cs := #[.int .i64 a0_0, .slice none 0 0, .int .i64 0, .slice none 0 0]) ?_ 1 _ rfl; (with_reducible repeat (first | refine blk_drewN ?_ _ | refine blk_drew ?_ | refine blk_alloc ?_ _)); refine blk_put (cs := #[.int .i64 0, .slice none 0 0, .int .i64 0, .slice none 0 0]) ?_ 0 _ rfl; (with_reducible repeat (first | refine blk_drewN ?_ _ | refine blk_drew ?_ | refine blk_alloc ?_ _)); exact BK313.out) Tryd.underlying38 rfl (by kernel_rfl)) rfl ?_
    exact ⟨_, _, by first | rfl | (simp [errW_none, errW_some] <;> rfl) | (simp [*, errW_none, errW_some] <;> rfl), by (with_reducible repeat (first | apply Kd.R_alloc | apply Kd.R_drewN | apply Kd.R_drew)); exact Kd.R_mono (Kd.R_far (p := ⟨gb313, 3, none⟩) (Kd.R_far (p := ⟨gb313, 2, none⟩) (Kd.R_far (p := ⟨gb313, 1, none⟩) (Kd.R_far (p := ⟨gb313, 0, none⟩) (Kd.R_types HO319.out BK313.out (by decide)) (fun _ hk => hk.2) (.int .i64 a0_0)) (fun _ hk => hk.2) (.slice Ao12 y317.length co12)) (fun _ hk => hk.2) (.int .i64 a0_2)) (fun _ hk => hk.2) (.slice Ao11 t320.length co11)) (fun _ hk => trivial), by (with_reducible repeat (first | apply Kd.R_alloc | apply Kd.R_drewN | apply Kd.R_drew)); exact Kd.R_mono (Kd.R_far (p := ⟨gb313, 3, none⟩) (Kd.R_far (p := ⟨gb313, 2, none⟩) (Kd.R_far (p := ⟨gb313, 1, none⟩) (Kd.R_far (p := ⟨gb313, 0, none⟩) (Kd.R_types HO322.out BK313.out (by decide)) (fun _ hk => hk.2) (.int .i64 a0_0)) (fun _ hk => hk.2) (.slice Ao12 y317.length co12)) (fun _ hk => hk.2) (.int .i64 a0_2)) (fun _ hk => hk.2) (.slice Ao11 t320.length co11)) (fun _ hk => trivial), by repeat (first | (with_reducible first | exact HB.out | apply below_alloc | apply pw_below_drewN | apply below_drew1 | refine below_set ?_ GE312.out | refine below_set ?_ GE313.out) | exact HB.out)⟩
  · rw [if_neg c2] at H
    exact absurd H (by simp)

end Go.Proofs.YtgdpknmffohhaaaDoor.Pl

/- What may be a line, by the reference: the program's answer. -/
namespace Go.Proofs.YtgdpknmffohhaaaDoor.Pl
open Go.RowKit Go.Lib Go.Proofs.YtgdpknmffohhaaaDoorW.PrintWords Go.Proofs.YtgdpknmffohhaaaDoorW.PrintLast Go.Proofs.YtgdpknmffohhaaaDoorW.PrintMore
set_option linter.unusedVariables false
theorem ref_target_ (s : ByteArray) (hs : s.size ≤ 70368744177664) : Ev (fun k => quillworkref03_Target.f k s) (target_ s) := by
  unfold quillworkref03_Target.f quillworkref03_Value.f target_
  have hT := ref_script_ s hs
  have hF : Ev (fun k => quillworkref03_Target.j0 k s true) false := by
    refine Ev.step (f := fun _ => some false) (fun k => ?_) (Ev.now _)
    simp only [quillworkref03_Target.j0]
    rfl
  refine Ev.congr (f := fun k => if isValue_ s = true then _ else _) (fun k => by rw [if_pos hs, Option.bind_some]) ?_
  cases isValue_ s with
  | false => exact Ev.congr (fun k => if_neg (by decide)) hF
  | true =>
    refine Ev.congr (fun k => if_pos rfl) ?_
    rw [Bool.true_and]
    by_cases h0 : s.toList = []
    · have hz := empty_size_ s h0
      refine Ev.congr (fun k => if_pos h0) ?_
      have he : ends_ s = false := by unfold ends_; rw [dif_neg (by omega)]
      rw [he, Bool.false_and]
      exact hF
    · have hz : 0 < s.size := by
        rcases Nat.eq_zero_or_pos s.size with h | h
        · exact absurd (size_empty_ s h) h0
        · exact h
      have he : ends_ s = (decide (¬ bt s 0 = 32) && decide (¬ bt s ((s.size : Int) - 1) = 32)) := by
        unfold ends_
        rw [dif_pos hz]
        have h1 := bt_at s 0 hz
        have h2 := bt_at s ((s.size : Int) - 1) (by omega)
        have e2 : ((s.size : Int) - 1).toNat = s.size - 1 := by omega
        rw [← h1, ← h2]
        simp only [e2, Int.toNat_zero]
      have hw : wrap64 ((s.size : Int) - 1) = (s.size : Int) - 1 := w64s_ _ (by omega)
      rw [he]
      refine Ev.congr (fun k => if_neg h0) ?_
      refine Ev.congr (fun k => if_pos (by omega)) ?_
      by_cases h1 : bt s 0 = 32
      · rw [decide_eq_false (fun h => h h1), Bool.false_and, Bool.false_and]
        exact Ev.congr (fun k => if_pos h1) hF
      · rw [decide_eq_true h1, Bool.true_and, hw]
        refine Ev.congr (fun k => if_neg h1) ?_
        refine Ev.congr (fun k => if_pos (by omega)) ?_
        refine Ev.congr (fun k => if_pos (by omega)) ?_
        by_cases h2 : bt s ((s.size : Int) - 1) = 32
        · rw [decide_eq_false (fun h => h h2), Bool.false_and, beq_iff_eq.2 h2]
          exact hF
        · rw [decide_eq_true h2, Bool.true_and, beq_eq_false_iff_ne.2 h2]
          exact hT
theorem ref_link_ (s : ByteArray) (hs : s.size ≤ 70368744177664) : Ev (fun k => quillworkref05_Link.f k s) (link_ s) := by
  unfold quillworkref05_Link.f link_
  by_cases h0 : s.toList = []
  · rw [h0]
    exact Ev.congr (fun k => if_pos rfl) (Ev.now _)
  · have : s.toList.isEmpty = false := by
      cases h : s.toList with
      | nil => exact absurd h h0
      | cons a l => rfl
    rw [this, Bool.false_or]
    exact Ev.congr (fun k => if_neg h0) (Ev.bind (ref_target_ s hs) (Ev.now _))
theorem ref_mayC_loop_ (l : List S71) (hl : l.length ≤ 1000000000) (hok : ∀ c ∈ l, c.f2.size ≤ 70368744177664) : ∀ (m i : Nat), l.length - i = m → i ≤ l.length → Ev (fun k => quillworkref05_May.l0 k l (i : Int)) (!((l.drop i).any bad_)) := by
  intro m
  induction m with
  | zero =>
    intro i hm hi
    refine Ev.step (f := fun _ => some _) (fun k => ?_) (Ev.now _)
    simp only [quillworkref05_May.l0]
    rw [if_neg (by omega), List.drop_eq_nil_of_le (by omega)]
    rfl
  | succ m ih =>
    intro i hm hi
    have e3 : wrap64 ((i : Int) + 1) = ((i + 1 : Nat) : Int) := by rw [w64s_ _ (by omega)]; omega
    have hil : i < l.length := by omega
    have ihh := ih (i + 1) (by omega) (by omega)
    have hr := rdc_ hil
    have hL := ref_link_ (l[i]'hil).f2 (hok _ (List.getElem_mem hil))
    rw [List.drop_eq_getElem_cons hil, List.any_cons]
    generalize l[i]'hil = c at hr hL
    have hM : Ev (fun k => quillworkref01_May.f k c.f0) (mayR_ c.f0) := Ev.of (fun k => quillworkref01_May.mono c.f0 k) (mayref_is_ c.f0)
    have hrest : Ev (fun k => (if c.f1 < 0 then some false else (if c.f1 > 15 then some false else ((quillworkref05_Link.f k c.f2).bind fun t => (if t = true then quillworkref05_May.l0 k l (wrap64 ((i : Int) + 1)) else some false))))) (!((decide (c.f1 < 0) || (decide (15 < c.f1) || !(link_ c.f2))) || (l.drop (i + 1)).any bad_)) := by
      by_cases h1 : c.f1 < 0
      · rw [decide_eq_true h1]
        exact Ev.congr (fun k => if_pos h1) (Ev.now _)
      · rw [decide_eq_false h1, Bool.false_or]
        refine Ev.congr (fun k => if_neg h1) ?_
        by_cases h2 : c.f1 > 15
        · rw [decide_eq_true h2]
          exact Ev.congr (fun k => if_pos h2) (Ev.now _)
        · rw [decide_eq_false h2, Bool.false_or]
          refine Ev.congr (fun k => if_neg h2) ?_
          refine Ev.bind hL ?_
          cases link_ c.f2 with
          | false => exact Ev.congr (fun k => if_neg (by decide)) (Ev.now _)
          | true =>
            rw [e3]
            exact Ev.congr (fun k => if_pos rfl) ihh
    have hb : bad_ c = ((!(mayR_ c.f0) && c.f0 != 10) || (decide (c.f1 < 0) || (decide (15 < c.f1) || !(link_ c.f2)))) := rfl
    rw [hb]
    refine Ev.step (f := fun k => if c.f0 = 10 then _ else _) (fun k => by
      simp only [quillworkref05_May.l0]
      rw [if_pos (by omega), if_pos (by omega), hr]) ?_
    by_cases h10 : c.f0 = 10
    · rw [show (c.f0 != 10) = false by simp [h10], Bool.and_false, Bool.false_or]
      exact Ev.congr (fun k => if_pos h10) hrest
    · rw [show (c.f0 != 10) = true by simp [h10], Bool.and_true]
      refine Ev.congr (fun k => if_neg h10) ?_
      refine Ev.bind hM ?_
      cases mayR_ c.f0 with
      | false => exact Ev.congr (fun k => if_neg (by decide)) (Ev.now _)
      | true =>
        rw [Bool.not_true, Bool.false_or]
        exact Ev.congr (fun k => if_pos rfl) hrest
theorem ref_mayK_loop_ (x : Ln) (hz : Sz x) (hl : x.ls.length ≤ 6) : ∀ (m i : Nat), x.ls.length - i = m → i ≤ x.ls.length → Ev (fun k => quillworkref06_May.l0 k (i : Int) x.q x.ls x.k x.cs) ((!((x.ls.drop i).any kindBad_) && decide (i = x.ls.length ∨ x.k = 0)) && !(x.cs.any bad_)) := by
  have hC := ref_mayC_loop_ x.cs (by have := hz.2.1; omega) (fun c hc => by have := hz.2.2 c hc; omega) _ 0 rfl (Nat.zero_le _)
  intro m
  induction m with
  | zero =>
    intro i hm hi
    have hi' : i = x.ls.length := by omega
    rw [List.drop_eq_nil_of_le (by omega), decide_eq_true (.inl hi')]
    refine Ev.step (f := fun k => (quillworkref05_May.f k x.cs).bind fun t => some t) (fun k => ?_) (Ev.bind hC (Ev.now _))
    simp only [quillworkref06_May.l0]
    rw [if_neg (by omega)]
  | succ m ih =>
    intro i hm hi
    have e3 : wrap64 ((i : Int) + 1) = ((i + 1 : Nat) : Int) := by rw [w64s_ _ (by omega)]; omega
    have hil : i < x.ls.length := by omega
    have ihh := ih (i + 1) (by omega) (by omega)
    have hr := rdi_ hil
    rw [List.drop_eq_getElem_cons hil, List.any_cons]
    generalize x.ls[i]'hil = c at hr
    by_cases hk : x.k = 0
    · rw [decide_eq_true (.inr hk), Bool.and_true] at ihh ⊢
      by_cases h0 : c = 0
      · rw [show kindBad_ c = false by rw [h0]; rfl, Bool.false_or]
        refine Ev.step (fun k => ?_) ihh
        simp only [quillworkref06_May.l0]
        rw [if_pos (by omega), if_pos (by omega), hr, if_pos h0, if_pos hk, e3]
      · by_cases h1 : c = 1
        · rw [show kindBad_ c = false by rw [h1]; rfl, Bool.false_or]
          refine Ev.step (fun k => ?_) ihh
          simp only [quillworkref06_May.l0]
          rw [if_pos (by omega), if_pos (by omega), hr, if_neg h0, if_pos h1, if_pos hk, e3]
        · rw [show kindBad_ c = true by simp [kindBad_, h0, h1]]
          refine Ev.step (f := fun _ => some _) (fun k => ?_) (Ev.now _)
          simp only [quillworkref06_May.l0]
          rw [if_pos (by omega), if_pos (by omega), hr, if_neg h0, if_neg h1]
          rfl
    · rw [decide_eq_false (by omega), Bool.and_false, Bool.false_and]
      refine Ev.step (f := fun _ => some _) (fun k => ?_) (Ev.now _)
      simp only [quillworkref06_May.l0]
      rw [if_pos (by omega), if_pos (by omega), hr]
      by_cases h0 : c = 0
      · rw [if_pos h0, if_neg hk]
      · rw [if_neg h0]
        by_cases h1 : c = 1
        · rw [if_pos h1, if_neg hk]
        · rw [if_neg h1]
theorem ref_may_ (x : Ln) (hz : Sz x) : Ev (fun k => quillworkref06_May.f k x.q x.ls x.k x.cs) (mayL x) := by
  have hF : Ev (fun k => quillworkref06_May.j0 k true x.q x.ls x.k x.cs) false := by
    refine Ev.step (f := fun _ => some false) (fun k => ?_) (Ev.now _)
    simp only [quillworkref06_May.j0]
    rfl
  unfold quillworkref06_May.f mayL
  by_cases h1 : x.q < 0
  · rw [show decide (0 ≤ x.q ∧ x.q ≤ 6 ∧ x.ls.length ≤ 6 ∧ 0 ≤ x.k ∧ x.k ≤ 3 ∧ (x.ls.length = 0 ∨ x.k = 0)) = false from decide_eq_false (by omega), Bool.false_and]
    exact Ev.congr (fun k => if_pos h1) hF
  refine Ev.congr (fun k => if_neg h1) ?_
  by_cases h2 : x.q > 6
  · rw [show decide (0 ≤ x.q ∧ x.q ≤ 6 ∧ x.ls.length ≤ 6 ∧ 0 ≤ x.k ∧ x.k ≤ 3 ∧ (x.ls.length = 0 ∨ x.k = 0)) = false from decide_eq_false (by omega), Bool.false_and]
    exact Ev.congr (fun k => if_pos h2) hF
  refine Ev.congr (fun k => if_neg h2) ?_
  by_cases h3 : (x.ls.length : Int) > 6
  · rw [show decide (0 ≤ x.q ∧ x.q ≤ 6 ∧ x.ls.length ≤ 6 ∧ 0 ≤ x.k ∧ x.k ≤ 3 ∧ (x.ls.length = 0 ∨ x.k = 0)) = false from decide_eq_false (by omega), Bool.false_and]
    exact Ev.congr (fun k => if_pos h3) hF
  refine Ev.congr (fun k => if_neg h3) ?_
  by_cases h4 : x.k < 0
  · rw [show decide (0 ≤ x.q ∧ x.q ≤ 6 ∧ x.ls.length ≤ 6 ∧ 0 ≤ x.k ∧ x.k ≤ 3 ∧ (x.ls.length = 0 ∨ x.k = 0)) = false from decide_eq_false (by omega), Bool.false_and]
    exact Ev.congr (fun k => if_pos h4) hF
  refine Ev.congr (fun k => if_neg h4) ?_
  by_cases h5 : x.k > 3
  · rw [show decide (0 ≤ x.q ∧ x.q ≤ 6 ∧ x.ls.length ≤ 6 ∧ 0 ≤ x.k ∧ x.k ≤ 3 ∧ (x.ls.length = 0 ∨ x.k = 0)) = false from decide_eq_false (by omega), Bool.false_and, decide_eq_true h5]
    exact hF
  rw [decide_eq_false h5]
  have hK := ref_mayK_loop_ x hz (by omega) _ 0 rfl (Nat.zero_le _)
  refine Ev.step (f := fun k => quillworkref06_May.l0 k 0 x.q x.ls x.k x.cs) (fun k => ?_) ?_
  · simp only [quillworkref06_May.j0]
    rfl
  · have e : ((!((x.ls.drop 0).any kindBad_) && decide (0 = x.ls.length ∨ x.k = 0)) && !(x.cs.any bad_)) = (decide (0 ≤ x.q ∧ x.q ≤ 6 ∧ x.ls.length ≤ 6 ∧ 0 ≤ x.k ∧ x.k ≤ 3 ∧ (x.ls.length = 0 ∨ x.k = 0)) && (!(x.ls.any kindBad_) && !(x.cs.any bad_))) := by
      rw [show decide (0 ≤ x.q ∧ x.q ≤ 6 ∧ x.ls.length ≤ 6 ∧ 0 ≤ x.k ∧ x.k ≤ 3 ∧ (x.ls.length = 0 ∨ x.k = 0)) = decide (0 = x.ls.length ∨ x.k = 0) by rw [decide_eq_decide]; omega, List.drop_zero]
      cases (x.ls.any kindBad_) <;> cases (decide (0 = x.ls.length ∨ x.k = 0)) <;> cases (x.cs.any bad_) <;> rfl
    rw [← e]
    exact hK
/-- the reference's answer whether a line may be -/
theorem refmay_calls_ (x : Ln) (v : Value) (w : World) (hx : RdL w v x) (hz : Sz x) :
    Calls Tryd.prog 38 #[v] w fun e w' => e = .returned (.bool (mayL x)) ∧ Below w.heap.size w w' := by
  obtain ⟨_, _, rfl, ⟨A1, c1, rfl, h1, hc1⟩, ⟨A3, c3, rfl, h3, hc3⟩⟩ := hx
  obtain ⟨k, hk⟩ := (ref_may_ x hz).rounds
  exact quillworkref06_May.calls k _ _ _ _ _ _ _ _ _ w h1 hc1 h3 hc3 hk
theorem refown_calls_ (x : Ln) (v : Value) (w : World) (hx : RdL w v x) (hz : Sz x) :
    Calls Tryd.prog 26 #[v] w fun e w' => ∃ v1 v3 : Value, e = .returned (.agg #[.int .i64 x.q, v1, .int .i64 x.k, v3]) ∧ Kd.R (Kd.int .i64) 3 w' w.heap.size (fun _ => True) v1 x.ls ∧ Kd.R k71 71 w' w.heap.size (fun _ => True) v3 x.cs ∧ Below w.heap.size w w' := by
  obtain ⟨_, _, rfl, ⟨A1, c1, rfl, h1, hc1⟩, ⟨A3, c3, rfl, h3, hc3⟩⟩ := hx
  exact quillworkref06_Own.calls _ _ _ _ _ _ _ _ _ _ _ _ w h1 hc1 h3 hc3 (by
    unfold quillworkref06_Own.f quillworkref05_Own.f
    simp only [Option.bind_some, List.nil_append, List.length_nil]
    rw [if_pos (by have := hz.1; omega), if_pos (by have := hz.2.1; omega)]
    rfl)
end Go.Proofs.YtgdpknmffohhaaaDoor.Pl

/- The closure of lines.List. -/
namespace Go.Proofs.YtgdpknmffohhaaaDoor.Pl
open Go.RowKit Go.Lib Go.Proofs.YtgdpknmffohhaaaDoorW.PrintWords Go.Proofs.YtgdpknmffohhaaaDoorW.PrintLast Go.Proofs.YtgdpknmffohhaaaDoorW.PrintMore
set_option linter.unusedVariables false
theorem int_elem_ {W : World} {B g n cap : Nat} {ok : Nat → Prop} {xs : List Int} (h : Kd.R (Kd.int .i64) 3 W B ok (.slice (some ⟨g, 0, none⟩) n cap) xs) (k : Nat) (hk : k < xs.length) :
    W.cell? ⟨g, k, none⟩ = some (.int .i64 (rd xs (k : Int))) ∧ W.frozen? ⟨g, k, none⟩ = false ∧ ∀ b : Int, Kd.R (Kd.int .i64) 3 (W.setCell ⟨g, k, none⟩ (.int .i64 b)) B ok (.slice (some ⟨g, 0, none⟩) n cap) (xs.set k b) := by
  have hn : n = xs.length := (Kd.R_reads' h).1
  obtain ⟨ce, hcl, hM, hcc, hfr⟩ := Kd.R_elem h 0 (k : Int) (by omega) (by omega)
  obtain rfl : ce = [.int .i64 (rd xs (k : Int))] := hM
  have h0 := hcc 0 _ rfl
  have h1 := hfr 0
  have h2 := fun b : Int => (Kd.R_seg h (k : Int) (by omega) (by omega) (seg := [.int .i64 b]) (j := 0) hcl hcc (show 1 ≤ 1 from by decide) (x' := b) rfl (fun _ hk => hk)).1
  simp only [show (Kd.int .i64).sz = 1 from rfl, Nat.mul_one, Nat.add_zero, Int.toNat_natCast] at h0 h1 h2
  exact ⟨h0, h1, h2⟩
theorem Wr_one_ {W : World} {g base : Nat} {k : Int} (h : W.heap[g]? = some (.cells #[.int .i64 k] 3 (0, 0))) (hb : base ≤ g) : Wr (Kd.int .i64) 3 W base (.slice (some ⟨g, 0, none⟩) 1 1) [k] := by
  refine ⟨some ⟨g, 0, none⟩, 1, rfl, ⟨rfl, by simp, fun _ => ⟨_, rfl, fun j p hj => ?_⟩⟩, Nat.le_refl _, fun _ => ⟨g, 0, _, rfl, hb, h⟩⟩
  cases j with
  | zero =>
    cases hj
    refine ⟨[.int .i64 k], rfl, rfl, fun i u hu => ?_⟩
    cases i with
    | zero => cases hu; exact (blk_cell h 0).trans rfl
    | succ i => cases hu
  | succ j => simp at hj
set_option maxRecDepth 100000 in
set_option maxHeartbeats 4000000 in
theorem list_turns_ (w0 : World) (kind : Int) (bk : Nat) (hk : w0.cell? ⟨bk, 0, none⟩ = some (.int .i64 kind)) : Turns_ w0 93 #[.pointer (some ⟨bk, 0, none⟩)] (listF kind) := by
  intro x W b v1 v3 hm hz hb hr1 hr3 hbb hB
  show Calls Tryd.prog 93 #[.pointer (some ⟨b, 0, none⟩), .pointer (some ⟨bk, 0, none⟩)] W _
  have hu38 := Tryd.underlying38
  obtain ⟨A, c, rfl⟩ := Kd.R_slice hr1
  unfold listF
  have HL := Aside0.mk (last_calls_ x.ls b _ W hb.c1 (Wr.of_R hr1).rd)
  have HBX := Aside0.mk hb
  have H1 := Aside0.mk hr1
  have H3 := Aside0.mk hr3
  have HB := Aside0.mk hB
  have hbk : bk < w0.heap.size := World.block_lt_of_cell? _ _ hk
  have k0 : W.cell? ⟨bk, 0, none⟩ = some (.int .i64 kind) := (hB.cell hbk).trans hk
  have hne : bk ≠ b := by omega
  by_cases h0 : x.ls = []
  · rw [if_pos h0]
    have hl : lastF x.ls = -1 := by rw [h0]; rfl
    rw [hl] at HL
    have f1 : ∀ nd o', ((W.drewN nd).alloc o').frozen? ⟨b, 1, none⟩ = false := fun nd o' => blk_frozen (blk_alloc (blk_drewN hb nd) o') 1
    have f2 : ∀ nd o', ((W.drewN nd).alloc o').frozen? ⟨b, 2, none⟩ = false := fun nd o' => blk_frozen (blk_alloc (blk_drewN hb nd) o') 2
    have c1 : ∀ nd o', ((W.drewN nd).alloc o').cell? ⟨b, 1, none⟩ = some (.slice A x.ls.length c) := fun nd o' => (blk_cell (blk_alloc (blk_drewN hb nd) o') 1).trans rfl
    have c2 : ∀ nd o', ((W.drewN nd).alloc o').cell? ⟨b, 2, none⟩ = some (.int .i64 x.k) := fun nd o' => (blk_cell (blk_alloc (blk_drewN hb nd) o') 2).trans rfl
    clear hk hb hr1 hr3 hB hm hz hbk hne hl h0
    go_enter Tryd.func93, Tryd.ntmps93
    go_wp2_with (go_at_call 90; refine HL.out.mono ?_; rintro e w' ⟨rfl, ⟨nd, rfl⟩⟩)
    go_ret
    have B1 : ((W.drewN nd).alloc (.cells #[.int .i64 kind] 3)).heap[b]? = some _ := blk_alloc (blk_drewN HBX.out nd) _
    have N1 : ((W.drewN nd).alloc (.cells #[.int .i64 kind] 3)).heap[W.heap.size]? = some (.cells #[.int .i64 kind] 3 (0, 0)) := heap_alloc_new (W.drewN nd) _
    have hlt : b < W.heap.size := blk_lt HBX.out
    refine ⟨_, rfl, blk_put (blk_put B1 1 _ rfl) 2 _ rfl, Wr_one_ (blk_off_ (blk_off_ N1 (by omega)) (by omega)) HB.out.size, Wr.of_R (R_put_ (R_put_ (Kd.R_alloc (Kd.R_drewN H3.out nd) _) B1 (by decide) 1 _) (blk_put B1 1 _ rfl) (by decide) 2 _), below_set (below_set (below_alloc (pw_below_drewN HB.out nd) _) hbb) hbb, fun o cells hne ho => blk_off_ (blk_off_ (blk_alloc (blk_drewN ho nd) _) hne) hne⟩
  · rw [if_neg h0]
    have hkm := lastF_may hm h0
    obtain ⟨n, hn⟩ : ∃ n, n + 1 = x.ls.length := ⟨x.ls.length - 1, by have := List.length_pos_iff.2 h0; omega⟩
    have d1 : decide (lastF x.ls < 0) = false := decide_eq_false (by omega)
    obtain ⟨g, cap, e1, hgb, hgl, cl, hcl⟩ := Kd.R_form hr1 (by omega)
    injection e1 with e2 _ e3
    subst e2
    subst e3
    obtain ⟨x0, f0, hset⟩ := int_elem_ hr1 n (by omega)
    have HSET := Aside0.mk (hset kind)
    have hgne : ∀ o cells, W.heap[o]? = some (.cells cells 38 (0, 0)) → o ≠ g := fun o cells ho e => by
      subst e
      rw [hcl] at ho
      injection ho with ho
      injection ho with _ ho
      exact absurd ho (by decide)
    have HGNE := Aside0.mk hgne
    have HCL := Aside0.mk hcl
    have c1 := hb.c1
    rw [← hn] at c1
    have hw : IntKind.i64.wrap (n : Int) = (n : Int) := by rw [i64_w]; unfold wrap64; have := (Wr.of_R hr1).rd.len; omega
    have k1 : ∀ m u, ((W.drewN m).setCell ⟨g, n, none⟩ u).cell? ⟨bk, 0, none⟩ = some (.int .i64 kind) := fun m u => (cell_far (W := W.drewN m) (p := ⟨g, n, none⟩) (show bk ≠ g by omega) u).trans k0
    have hn1 : x.ls.length - 1 = n := by omega
    rw [hn1]
    generalize lastF x.ls = kk at HL d1 ⊢
    have HGB := Aside0.mk hgb
    clear hk hb hr1 hr3 hB hm hz hbk hne h0 hkm hset hgne hgb hgl hcl hn1 hn
    go_enter Tryd.func93, Tryd.ntmps93
    go_wp2_with (go_at_call 90; refine HL.out.mono ?_; rintro e w' ⟨rfl, ⟨nd, rfl⟩⟩)
    go_region
    all_goals
      go_wp2
      go_ret
      refine ⟨_, rfl, blk_off_ (blk_drewN HBX.out _) (HGNE.out _ _ HBX.out), Wr.of_R (Kd.R_drewN HSET.out _), Wr.of_R (R_put_ (Kd.R_drewN H3.out _) (blk_drewN HCL.out _) (by decide) n _), below_set (pw_below_drewN HB.out _) HGB.out, fun o cells hne ho => blk_off_ (blk_drewN ho _) (HGNE.out _ _ ho)⟩
end Go.Proofs.YtgdpknmffohhaaaDoor.Pl

/- lines.turned, and what it is called for: a line indented, outdented, in a list, as a heading, freed. -/
namespace Go.Proofs.YtgdpknmffohhaaaDoor.Pl
open Go.RowKit Go.Lib Go.Proofs.YtgdpknmffohhaaaDoorW.PrintWords Go.Proofs.YtgdpknmffohhaaaDoorW.PrintLast Go.Proofs.YtgdpknmffohhaaaDoorW.PrintMore
set_option linter.unusedVariables false
def turnR (F : Ln → Bool × Ln) (x : Ln) : Ln × Int := if mayL x = true then (if (F x).1 = true then ((F x).2, 0) else (zeroLn, 7)) else (zeroLn, 1)
/-- a line and an error, handed back -/
def Back_ (w : World) (r : Ln × Int) (e : Ending) (w' : World) : Prop := ∃ v', e = .returned (.tuple #[v', .int .i64 r.2]) ∧ WrL w' w.heap.size v' r.1 ∧ Below w.heap.size w w'
theorem Wr.slice_ {α : Type} {d : Kd α} {e : Nat} {W : World} {base : Nat} {v : Value} {xs : List α} (h : Wr d e W base v xs) : ∃ A c, v = .slice A xs.length c := by
  obtain ⟨A, c, e, _⟩ := h
  exact ⟨A, c, e⟩
theorem Wr_put_ {α : Type} {d : Kd α} {e : Nat} {W : World} {base : Nat} {v : Value} {xs : List α} {g t : Nat} {cells : Array Value} (h : Wr d e W base v xs) (hb : W.heap[g]? = some (.cells cells t (0, 0))) (ht : e ≠ t) (hE : d.E = []) (i : Nat) (u : Value) (hK : ∀ (W W1 : World) x cs, d.K W x cs → d.K W1 x cs) : Wr d e (W.setCell ⟨g, i, none⟩ u) base v xs := by
  obtain ⟨A, c, e1, h1, h2, h3⟩ := h
  refine ⟨A, c, e1, ⟨h1.1, h1.2.1, fun hp => ?_⟩, h2, fun hp => ?_⟩
  · obtain ⟨ad, e2, h4⟩ := h1.2.2 hp
    obtain ⟨g', off, cells', e3, h5, h6⟩ := h3 hp
    have hne : g' ≠ g := fun e4 => by
      subst e4
      rw [hb] at h6
      injection h6 with h6
      injection h6 with _ h6
      exact ht h6.symm
    refine ⟨ad, e2, fun j p hj => ?_⟩
    obtain ⟨cs, h7, h8, h9⟩ := h4 j p hj
    refine ⟨cs, h7, hK _ _ _ _ h8, fun i' u' hu => ?_⟩
    have := h9 i' u' hu
    rw [e2] at e3
    injection e3 with e3
    subst e3
    exact (cell_far (p := ⟨g, i, none⟩) (by rw [add_block]; exact hne) u).trans this
  · obtain ⟨g', off, cells', e3, h5, h6⟩ := h3 hp
    have hne : g' ≠ g := fun e4 => by
      subst e4
      rw [hb] at h6
      injection h6 with h6
      injection h6 with _ h6
      exact ht h6.symm
    exact ⟨g', off, cells', e3, h5, blk_off_ h6 hne⟩
theorem WrI_put_ {W : World} {base : Nat} {v : Value} {xs : List Int} {g t : Nat} {cells : Array Value} (h : Wr (Kd.int .i64) 3 W base v xs) (hb : W.heap[g]? = some (.cells cells t (0, 0))) (ht : 3 ≠ t) (i : Nat) (u : Value) : Wr (Kd.int .i64) 3 (W.setCell ⟨g, i, none⟩ u) base v xs := Wr_put_ h hb ht rfl i u (fun _ _ _ _ h => h)
theorem WrC_put_ {W : World} {base : Nat} {v : Value} {xs : List S71} {g t : Nat} {cells : Array Value} (h : Wr k71 71 W base v xs) (hb : W.heap[g]? = some (.cells cells t (0, 0))) (ht : 71 ≠ t) (i : Nat) (u : Value) : Wr k71 71 (W.setCell ⟨g, i, none⟩ u) base v xs := Wr_put_ h hb ht rfl i u (fun _ _ _ _ h => h)
section
variable {W : World} {base : Nat} {v : Value} {g : Nat} {a b c d z0 z1 z2 z3 : Value} {t : Nat}
theorem put4_WrI {xs : List Int} (h : Wr (Kd.int .i64) 3 W base v xs) (hb : W.heap[g]? = some (.cells #[z0, z1, z2, z3] t (0, 0))) (ht : 3 ≠ t) : Wr (Kd.int .i64) 3 (put4_ W g a b c d) base v xs :=
  WrI_put_ (WrI_put_ (WrI_put_ (WrI_put_ h hb ht 0 a) (blk_put hb 0 a rfl) ht 1 b) (blk_put (blk_put hb 0 a rfl) 1 b rfl) ht 2 c) (blk_put (blk_put (blk_put hb 0 a rfl) 1 b rfl) 2 c rfl) ht 3 d
theorem put4_WrC {xs : List S71} (h : Wr k71 71 W base v xs) (hb : W.heap[g]? = some (.cells #[z0, z1, z2, z3] t (0, 0))) (ht : 71 ≠ t) : Wr k71 71 (put4_ W g a b c d) base v xs :=
  WrC_put_ (WrC_put_ (WrC_put_ (WrC_put_ h hb ht 0 a) (blk_put hb 0 a rfl) ht 1 b) (blk_put (blk_put hb 0 a rfl) 1 b rfl) ht 2 c) (blk_put (blk_put (blk_put hb 0 a rfl) 1 b rfl) 2 c rfl) ht 3 d
theorem put4_WrL {x : Ln} (h : WrL W base v x) (hb : W.heap[g]? = some (.cells #[z0, z1, z2, z3] 38 (0, 0))) : WrL (put4_ W g a b c d) base v x := by
  obtain ⟨v1, v3, e, h1, h3⟩ := h
  exact ⟨v1, v3, e, put4_WrI h1 hb (by decide), put4_WrC h3 hb (by decide)⟩
end
set_option maxRecDepth 100000 in
set_option maxHeartbeats 8000000 in
theorem turned_calls_ (x : Ln) (v : Value) (w : World) (g : Nat) (lb : Array Value) (F : Ln → Bool × Ln) (hx : RdL w v x) (hz : Sz x) (hG : Gl_ w) (eg : ∀ args w, (callFunc g args).run Tryd.prog w = .ok (.enter g args) w) (hT : Turns_ w g lb F) :
    Calls Tryd.prog 88 #[v, .func (.func g) #[] lb] w fun e w' => Back_ w (turnR F x) e w' := by
  have hu38 := Tryd.underlying38
  obtain ⟨_, _, rfl, ⟨A1, c1, rfl, h1, hc1⟩, ⟨A3, c3, rfl, h3, hc3⟩⟩ := hx
  have HX := Aside0.mk (show RdL w (.agg #[.int .i64 x.q, .slice A1 x.ls.length c1, .int .i64 x.k, .slice A3 x.cs.length c3]) x from ⟨_, _, rfl, ⟨A1, c1, rfl, h1, hc1⟩, ⟨A3, c3, rfl, h3, hc3⟩⟩)
  have HM := Aside0.mk (fun W (hW : Below w.heap.size w W) => may_calls_ x _ W (HX.out.below hW) hz (hG.below hW))
  have HO := Aside0.mk (fun W (hW : Below w.heap.size w W) => own_calls_ x _ W (HX.out.below hW) hz)
  have HT := Aside0.mk hT
  have HZ := Aside0.mk hz
  clear h1 h3 hc1 hc3 hz hG hT HX
  obtain ⟨F1, F2, F3⟩ := two_boxes_ w (.cells #[.int .i64 x.q, .slice A1 x.ls.length c1, .int .i64 x.k, .slice A3 x.cs.length c3] 38) (.cells #[.int .i64 0, .slice none 0 0, .int .i64 0, .slice none 0 0] 38)
  go_enter Tryd.func88, Tryd.ntmps88
  go_upto_region 1 with (fail)
  generalize (w.alloc (.cells #[.int .i64 x.q, .slice A1 x.ls.length c1, .int .i64 x.k, .slice A3 x.cs.length c3] 38)).alloc (.cells #[.int .i64 0, .slice none 0 0, .int .i64 0, .slice none 0 0] 38) = W0 at F1 F2 F3 ⊢
  have a0 : W0.cell? ⟨w.heap.size, 0, none⟩ = some (.int .i64 x.q) := (blk_cell F1 0).trans rfl
  have a1 : W0.cell? ⟨w.heap.size, 1, none⟩ = some (.slice A1 x.ls.length c1) := (blk_cell F1 1).trans rfl
  have a2 : W0.cell? ⟨w.heap.size, 2, none⟩ = some (.int .i64 x.k) := (blk_cell F1 2).trans rfl
  have a3 : W0.cell? ⟨w.heap.size, 3, none⟩ = some (.slice A3 x.cs.length c3) := (blk_cell F1 3).trans rfl
  have H1 := Aside0.mk F1
  have H2 := Aside0.mk F2
  have H3 := Aside0.mk F3
  clear F1 F2 F3
  cases hm : mayL x with
  | false =>
    rw [hm] at HM
    have HR := Aside0.mk (show turnR F x = (zeroLn, 1) by unfold turnR; rw [hm]; rfl)
    go_wp2_with (go_at_call 37; refine (HM.out _ H3.out).mono ?_; rintro e w1 ⟨rfl, hb⟩; have HB1 := Aside0.mk hb; have fb := blk_below H2.out hb; have e0 := blk_frozen fb 0; have e1 := blk_frozen fb 1; have e2 := blk_frozen fb 2; have e3 := blk_frozen fb 3; have b0 : w1.cell? ⟨w.heap.size + 1, 0, none⟩ = some (.int .i64 0) := (blk_cell fb 0).trans rfl; have b1 : w1.cell? ⟨w.heap.size + 1, 1, none⟩ = some (.slice none 0 0) := (blk_cell fb 1).trans rfl; have b2 : w1.cell? ⟨w.heap.size + 1, 2, none⟩ = some (.int .i64 0) := (blk_cell fb 2).trans rfl; have b3 : w1.cell? ⟨w.heap.size + 1, 3, none⟩ = some (.slice none 0 0) := (blk_cell fb 3).trans rfl; have FB := Aside0.mk fb; clear hb fb)
    refine bodyPost_ret (results_ct rfl _ _ (w.heap.size + 1) 38 #[.int .i64 0, .slice none 0 0, .int .i64 0, .slice none 0 0] (0, 0) _ rfl (put4_blk FB.out) Tryd.underlying38 rfl (by kernel_rfl)) rfl ?_
    exact ⟨_, by rw [HR.out]; rfl, by rw [HR.out]; exact WrL_zero _ _, put4_below (below_step H3.out HB1.out) (Nat.le_succ _)⟩
  | true =>
    rw [hm] at HM
    go_upto_region 4 with (first
      | (go_at_call 37; refine (HM.out _ H3.out).mono ?_; rintro e w1 ⟨rfl, hb⟩; have a0' : w1.cell? ⟨w.heap.size, 0, none⟩ = _ := (hb.cell (World.block_lt_of_cell? _ _ a0)).trans a0; have a1' : w1.cell? ⟨w.heap.size, 1, none⟩ = _ := (hb.cell (World.block_lt_of_cell? _ _ a1)).trans a1; have a2' : w1.cell? ⟨w.heap.size, 2, none⟩ = _ := (hb.cell (World.block_lt_of_cell? _ _ a2)).trans a2; have a3' : w1.cell? ⟨w.heap.size, 3, none⟩ = _ := (hb.cell (World.block_lt_of_cell? _ _ a3)).trans a3; have HB1 := Aside0.mk hb; clear hb)
      | (go_at_call 39; refine (HO.out _ (below_step H3.out HB1.out)).mono ?_; rintro e w2 ⟨u1, u3, rfl, ho1, ho3, hb⟩; obtain ⟨B1, d1, rfl⟩ := Kd.R_slice ho1; obtain ⟨B3, d3, rfl⟩ := Kd.R_slice ho3; have HO1 := Aside0.mk ho1; have HO3 := Aside0.mk ho3; have fb := blk_below (blk_below H1.out HB1.out) hb; have e0 := blk_frozen fb 0; have e1 := blk_frozen fb 1; have e2 := blk_frozen fb 2; have e3 := blk_frozen fb 3; have b0 : w2.cell? ⟨w.heap.size, 0, none⟩ = some (.int .i64 x.q) := (blk_cell fb 0).trans rfl; have b1 : w2.cell? ⟨w.heap.size, 1, none⟩ = some (.slice A1 x.ls.length c1) := (blk_cell fb 1).trans rfl; have b2 : w2.cell? ⟨w.heap.size, 2, none⟩ = some (.int .i64 x.k) := (blk_cell fb 2).trans rfl; have b3 : w2.cell? ⟨w.heap.size, 3, none⟩ = some (.slice A3 x.cs.length c3) := (blk_cell fb 3).trans rfl; have FB := Aside0.mk fb; have HB2 := Aside0.mk hb; clear ho1 ho3 hb fb))
    have P1 := put4_blk (a := .int .i64 x.q) (b := .slice B1 x.ls.length d1) (c := .int .i64 x.k) (d := .slice B3 x.cs.length d3) FB.out
    have P2 := put4_off (g := w.heap.size) (a := .int .i64 x.q) (b := .slice B1 x.ls.length d1) (c := .int .i64 x.k) (d := .slice B3 x.cs.length d3) (blk_below (blk_below H2.out HB1.out) HB2.out) (by omega)
    have PO1 := put4_R (a := .int .i64 x.q) (b := .slice B1 x.ls.length d1) (c := .int .i64 x.k) (d := .slice B3 x.cs.length d3) (Kd.R_lower HO1.out (below_size (below_step H3.out HB1.out))) FB.out (by decide)
    have PO3 := put4_R (a := .int .i64 x.q) (b := .slice B1 x.ls.length d1) (c := .int .i64 x.k) (d := .slice B3 x.cs.length d3) (Kd.R_lower HO3.out (below_size (below_step H3.out HB1.out))) FB.out (by decide)
    have PB := put4_below (a := .int .i64 x.q) (b := .slice B1 x.ls.length d1) (c := .int .i64 x.k) (d := .slice B3 x.cs.length d3) (below_step (below_step H3.out HB1.out) HB2.out) (Nat.le_refl _)
    unfold put4_ at P1 P2 PO1 PO3 PB
    generalize (((w2.setCell ⟨w.heap.size, 0, none⟩ (.int .i64 x.q)).setCell ⟨w.heap.size, 1, none⟩ (.slice B1 x.ls.length d1)).setCell ⟨w.heap.size, 2, none⟩ (.int .i64 x.k)).setCell ⟨w.heap.size, 3, none⟩ (.slice B3 x.cs.length d3) = W3 at P1 P2 PO1 PO3 PB ⊢
    have HC := Aside0.mk (HT.out x W3 w.heap.size _ _ hm HZ.out P1 PO1 PO3 (Nat.le_refl _) PB)
    have Q2 := Aside0.mk P2
    clear P1 P2 PO1 PO3 PB e0 e1 e2 e3 b0 b1 b2 b3 a0 a1 a2 a3 a0' a1' a2' a3' HO1 HO3 FB HB1 HB2 H1 H2 H3 HM HO HT
    generalize hF : F x = r at HC
    obtain ⟨r, y⟩ := r
    cases r with
    | false =>
      have HR := Aside0.mk (show turnR F x = (zeroLn, 7) by unfold turnR; rw [hm, hF]; rfl)
      clear hF
      go_wp2_with (go_at_fn g; refine HC.out.mono ?_; rintro e w4 ⟨u1, rfl, hbx, hw1, hw3, hb, hoth⟩; have fb := hoth (w.heap.size + 1) _ (by omega) Q2.out; have e0 := blk_frozen fb 0; have e1 := blk_frozen fb 1; have e2 := blk_frozen fb 2; have e3 := blk_frozen fb 3; have b0 : w4.cell? ⟨w.heap.size + 1, 0, none⟩ = some (.int .i64 0) := (blk_cell fb 0).trans rfl; have b1 : w4.cell? ⟨w.heap.size + 1, 1, none⟩ = some (.slice none 0 0) := (blk_cell fb 1).trans rfl; have b2 : w4.cell? ⟨w.heap.size + 1, 2, none⟩ = some (.int .i64 0) := (blk_cell fb 2).trans rfl; have b3 : w4.cell? ⟨w.heap.size + 1, 3, none⟩ = some (.slice none 0 0) := (blk_cell fb 3).trans rfl; have FB := Aside0.mk fb; have HB4 := Aside0.mk hb; clear hb fb hbx hw1 hw3 hoth)
      refine bodyPost_ret (results_ct rfl _ _ (w.heap.size + 1) 38 #[.int .i64 0, .slice none 0 0, .int .i64 0, .slice none 0 0] (0, 0) _ rfl (put4_blk FB.out) Tryd.underlying38 rfl (by kernel_rfl)) rfl ?_
      exact ⟨_, by rw [HR.out]; rfl, by rw [HR.out]; exact WrL_zero _ _, put4_below HB4.out (Nat.le_succ _)⟩
    | true =>
      have HR := Aside0.mk (show turnR F x = (y, 0) by unfold turnR; rw [hm, hF]; rfl)
      clear hF
      go_wp2_with (go_at_fn g; refine HC.out.mono ?_; rintro e w4 ⟨u1, rfl, hbx, hw1, hw3, hb, hoth⟩; obtain ⟨B1', d1', rfl⟩ := hw1.slice_; have HL := Aside0.mk (show WrL w4 w.heap.size (.agg #[.int .i64 y.q, .slice B1' y.ls.length d1', .int .i64 y.k, .slice B3 x.cs.length d3]) y from ⟨_, _, rfl, hw1, hw3⟩); have fb := hoth (w.heap.size + 1) _ (by omega) Q2.out; have a0 := hbx.c0; have a1 := hbx.c1; have a2 := hbx.c2; have a3 := hbx.c3; have e0 := blk_frozen fb 0; have e1 := blk_frozen fb 1; have e2 := blk_frozen fb 2; have e3 := blk_frozen fb 3; have b0 : w4.cell? ⟨w.heap.size + 1, 0, none⟩ = some (.int .i64 0) := (blk_cell fb 0).trans rfl; have b1 : w4.cell? ⟨w.heap.size + 1, 1, none⟩ = some (.slice none 0 0) := (blk_cell fb 1).trans rfl; have b2 : w4.cell? ⟨w.heap.size + 1, 2, none⟩ = some (.int .i64 0) := (blk_cell fb 2).trans rfl; have b3 : w4.cell? ⟨w.heap.size + 1, 3, none⟩ = some (.slice none 0 0) := (blk_cell fb 3).trans rfl; have FB := Aside0.mk fb; have HB4 := Aside0.mk hb; clear hb fb hbx hw1 hw3 hoth)
      refine bodyPost_ret (results_ct rfl _ _ (w.heap.size + 1) 38 #[.int .i64 y.q, .slice B1' y.ls.length d1', .int .i64 y.k, .slice B3 x.cs.length d3] (0, 0) _ rfl (put4_blk FB.out) Tryd.underlying38 rfl (by kernel_rfl)) rfl ?_
      exact ⟨_, by rw [HR.out]; rfl, by rw [HR.out]; exact put4_WrL HL.out FB.out, put4_below HB4.out (Nat.le_succ _)⟩
end Go.Proofs.YtgdpknmffohhaaaDoor.Pl

/- lines.Indent, Outdent, List, Format, Free. -/
namespace Go.Proofs.YtgdpknmffohhaaaDoor.Pl
open Go.RowKit Go.Lib Go.Proofs.YtgdpknmffohhaaaDoorW.PrintWords Go.Proofs.YtgdpknmffohhaaaDoorW.PrintLast Go.Proofs.YtgdpknmffohhaaaDoorW.PrintMore
set_option linter.unusedVariables false
theorem three_boxes_ (w : World) (O1 O2 O3 : Obj) : (((w.alloc O1).alloc O2).alloc O3).heap[w.heap.size]? = some O1 ∧ (((w.alloc O1).alloc O2).alloc O3).heap[w.heap.size + 1]? = some O2 ∧ (((w.alloc O1).alloc O2).alloc O3).heap[w.heap.size + 2]? = some O3 ∧ Below w.heap.size w (((w.alloc O1).alloc O2).alloc O3) := by
  obtain ⟨h1, h2, h3⟩ := two_boxes_ w O1 O2
  refine ⟨blk_alloc h1 O3, blk_alloc h2 O3, ?_, below_alloc h3 O3⟩
  have h := heap_alloc_new ((w.alloc O1).alloc O2) O3
  rwa [World.size_alloc, World.size_alloc] at h
def listR (kind : Int) (x : Ln) : Ln × Int := if kind = 0 ∨ kind = 1 then turnR (listF kind) x else (zeroLn, 1)
theorem Back_.low {w W0 : World} {r : Ln × Int} {e : Ending} {w' : World} (h : Back_ W0 r e w') : ∃ B1 d1 B3 d3, e = .returned (.tuple #[.agg #[.int .i64 r.1.q, .slice B1 r.1.ls.length d1, .int .i64 r.1.k, .slice B3 r.1.cs.length d3], .int .i64 r.2]) ∧ WrL w' W0.heap.size (.agg #[.int .i64 r.1.q, .slice B1 r.1.ls.length d1, .int .i64 r.1.k, .slice B3 r.1.cs.length d3]) r.1 ∧ Below W0.heap.size W0 w' := by
  obtain ⟨v', rfl, ⟨u1, u3, rfl, h1, h3⟩, hb⟩ := h
  obtain ⟨B1, d1, rfl⟩ := h1.slice_
  obtain ⟨B3, d3, rfl⟩ := h3.slice_
  exact ⟨B1, d1, B3, d3, rfl, ⟨_, _, rfl, h1, h3⟩, hb⟩
set_option maxRecDepth 100000 in
set_option maxHeartbeats 4000000 in
theorem indent_calls_ (x : Ln) (v : Value) (w : World) (hx : RdL w v x) (hz : Sz x) (hG : Gl_ w) :
    Calls Tryd.prog 42 #[v] w fun e w' => Back_ w (turnR indentF x) e w' := by
  have hu38 := Tryd.underlying38
  obtain ⟨_, _, rfl, ⟨A1, c1, rfl, h1, hc1⟩, ⟨A3, c3, rfl, h3, hc3⟩⟩ := hx
  have hX : RdL w (.agg #[.int .i64 x.q, .slice A1 x.ls.length c1, .int .i64 x.k, .slice A3 x.cs.length c3]) x := ⟨_, _, rfl, ⟨A1, c1, rfl, h1, hc1⟩, ⟨A3, c3, rfl, h3, hc3⟩⟩
  have HC := Aside0.mk (fun W (hW : Below w.heap.size w W) => turned_calls_ x _ W 89 #[] indentF (hX.below hW) hz (hG.below hW) (enters_of Tryd.func89 (by kernel_rfl) rfl) (indent_turns_ W))
  obtain ⟨F1, F2, F3⟩ := two_boxes_ w (.cells #[.int .i64 x.q, .slice A1 x.ls.length c1, .int .i64 x.k, .slice A3 x.cs.length c3] 38) (.cells #[.int .i64 0, .slice none 0 0, .int .i64 0, .slice none 0 0] 38)
  clear h1 h3 hc1 hc3 hz hG hX
  generalize turnR indentF x = r at HC ⊢
  obtain ⟨y, ey⟩ := r
  go_enter Tryd.func42, Tryd.ntmps42
  go_upto_region 1 with (fail)
  generalize (w.alloc (.cells #[.int .i64 x.q, .slice A1 x.ls.length c1, .int .i64 x.k, .slice A3 x.cs.length c3] 38)).alloc (.cells #[.int .i64 0, .slice none 0 0, .int .i64 0, .slice none 0 0] 38) = W0 at F1 F2 F3 ⊢
  have a0 : W0.cell? ⟨w.heap.size, 0, none⟩ = some (.int .i64 x.q) := (blk_cell F1 0).trans rfl
  have a1 : W0.cell? ⟨w.heap.size, 1, none⟩ = some (.slice A1 x.ls.length c1) := (blk_cell F1 1).trans rfl
  have a2 : W0.cell? ⟨w.heap.size, 2, none⟩ = some (.int .i64 x.k) := (blk_cell F1 2).trans rfl
  have a3 : W0.cell? ⟨w.heap.size, 3, none⟩ = some (.slice A3 x.cs.length c3) := (blk_cell F1 3).trans rfl
  have H2 := Aside0.mk F2
  have H3 := Aside0.mk F3
  clear F1 F2 F3
  go_wp2_with (go_at_call 88; refine (HC.out _ H3.out).mono ?_; rintro e w1 hbk; obtain ⟨B1, d1, B3, d3, rfl, hw, hb⟩ := hbk.low (w := w); have HW := Aside0.mk hw; have HB1 := Aside0.mk hb; have fb := blk_below H2.out hb; have e0 := blk_frozen fb 0; have e1 := blk_frozen fb 1; have e2 := blk_frozen fb 2; have e3 := blk_frozen fb 3; have b0 : w1.cell? ⟨w.heap.size + 1, 0, none⟩ = some (.int .i64 0) := (blk_cell fb 0).trans rfl; have b1 : w1.cell? ⟨w.heap.size + 1, 1, none⟩ = some (.slice none 0 0) := (blk_cell fb 1).trans rfl; have b2 : w1.cell? ⟨w.heap.size + 1, 2, none⟩ = some (.int .i64 0) := (blk_cell fb 2).trans rfl; have b3 : w1.cell? ⟨w.heap.size + 1, 3, none⟩ = some (.slice none 0 0) := (blk_cell fb 3).trans rfl; have FB := Aside0.mk fb; clear hw hb fb)
  refine bodyPost_ret (results_ct rfl _ _ (w.heap.size + 1) 38 #[.int .i64 y.q, .slice B1 y.ls.length d1, .int .i64 y.k, .slice B3 y.cs.length d3] (0, 0) _ rfl (put4_blk FB.out) Tryd.underlying38 rfl (by kernel_rfl)) rfl ?_
  exact ⟨_, rfl, put4_WrL (HW.out.lower (below_size H3.out)) FB.out, put4_below (below_step H3.out HB1.out) (by omega)⟩
set_option maxRecDepth 100000 in
set_option maxHeartbeats 4000000 in
theorem outdent_calls_ (x : Ln) (v : Value) (w : World) (hx : RdL w v x) (hz : Sz x) (hG : Gl_ w) :
    Calls Tryd.prog 43 #[v] w fun e w' => Back_ w (turnR outdentF x) e w' := by
  have hu38 := Tryd.underlying38
  obtain ⟨_, _, rfl, ⟨A1, c1, rfl, h1, hc1⟩, ⟨A3, c3, rfl, h3, hc3⟩⟩ := hx
  have hX : RdL w (.agg #[.int .i64 x.q, .slice A1 x.ls.length c1, .int .i64 x.k, .slice A3 x.cs.length c3]) x := ⟨_, _, rfl, ⟨A1, c1, rfl, h1, hc1⟩, ⟨A3, c3, rfl, h3, hc3⟩⟩
  have HC := Aside0.mk (fun W (hW : Below w.heap.size w W) => turned_calls_ x _ W 91 #[] outdentF (hX.below hW) hz (hG.below hW) (enters_of Tryd.func91 (by kernel_rfl) rfl) (outdent_turns_ W))
  obtain ⟨F1, F2, F3⟩ := two_boxes_ w (.cells #[.int .i64 x.q, .slice A1 x.ls.length c1, .int .i64 x.k, .slice A3 x.cs.length c3] 38) (.cells #[.int .i64 0, .slice none 0 0, .int .i64 0, .slice none 0 0] 38)
  clear h1 h3 hc1 hc3 hz hG hX
  generalize turnR outdentF x = r at HC ⊢
  obtain ⟨y, ey⟩ := r
  go_enter Tryd.func43, Tryd.ntmps43
  go_upto_region 1 with (fail)
  generalize (w.alloc (.cells #[.int .i64 x.q, .slice A1 x.ls.length c1, .int .i64 x.k, .slice A3 x.cs.length c3] 38)).alloc (.cells #[.int .i64 0, .slice none 0 0, .int .i64 0, .slice none 0 0] 38) = W0 at F1 F2 F3 ⊢
  have a0 : W0.cell? ⟨w.heap.size, 0, none⟩ = some (.int .i64 x.q) := (blk_cell F1 0).trans rfl
  have a1 : W0.cell? ⟨w.heap.size, 1, none⟩ = some (.slice A1 x.ls.length c1) := (blk_cell F1 1).trans rfl
  have a2 : W0.cell? ⟨w.heap.size, 2, none⟩ = some (.int .i64 x.k) := (blk_cell F1 2).trans rfl
  have a3 : W0.cell? ⟨w.heap.size, 3, none⟩ = some (.slice A3 x.cs.length c3) := (blk_cell F1 3).trans rfl
  have H2 := Aside0.mk F2
  have H3 := Aside0.mk F3
  clear F1 F2 F3
  go_wp2_with (go_at_call 88; refine (HC.out _ H3.out).mono ?_; rintro e w1 hbk; obtain ⟨B1, d1, B3, d3, rfl, hw, hb⟩ := hbk.low (w := w); have HW := Aside0.mk hw; have HB1 := Aside0.mk hb; have fb := blk_below H2.out hb; have e0 := blk_frozen fb 0; have e1 := blk_frozen fb 1; have e2 := blk_frozen fb 2; have e3 := blk_frozen fb 3; have b0 : w1.cell? ⟨w.heap.size + 1, 0, none⟩ = some (.int .i64 0) := (blk_cell fb 0).trans rfl; have b1 : w1.cell? ⟨w.heap.size + 1, 1, none⟩ = some (.slice none 0 0) := (blk_cell fb 1).trans rfl; have b2 : w1.cell? ⟨w.heap.size + 1, 2, none⟩ = some (.int .i64 0) := (blk_cell fb 2).trans rfl; have b3 : w1.cell? ⟨w.heap.size + 1, 3, none⟩ = some (.slice none 0 0) := (blk_cell fb 3).trans rfl; have FB := Aside0.mk fb; clear hw hb fb)
  refine bodyPost_ret (results_ct rfl _ _ (w.heap.size + 1) 38 #[.int .i64 y.q, .slice B1 y.ls.length d1, .int .i64 y.k, .slice B3 y.cs.length d3] (0, 0) _ rfl (put4_blk FB.out) Tryd.underlying38 rfl (by kernel_rfl)) rfl ?_
  exact ⟨_, rfl, put4_WrL (HW.out.lower (below_size H3.out)) FB.out, put4_below (below_step H3.out HB1.out) (by omega)⟩
set_option maxRecDepth 100000 in
set_option maxHeartbeats 4000000 in
theorem list_calls_ (kind : Int) (x : Ln) (v : Value) (w : World) (hx : RdL w v x) (hz : Sz x) (hG : Gl_ w) :
    Calls Tryd.prog 46 #[v, .int .i64 kind] w fun e w' => Back_ w (listR kind x) e w' := by
  have hu38 := Tryd.underlying38
  obtain ⟨_, _, rfl, ⟨A1, c1, rfl, h1, hc1⟩, ⟨A3, c3, rfl, h3, hc3⟩⟩ := hx
  have hX : RdL w (.agg #[.int .i64 x.q, .slice A1 x.ls.length c1, .int .i64 x.k, .slice A3 x.cs.length c3]) x := ⟨_, _, rfl, ⟨A1, c1, rfl, h1, hc1⟩, ⟨A3, c3, rfl, h3, hc3⟩⟩
  have HC := Aside0.mk (fun W (hW : Below w.heap.size w W) (hk : W.cell? ⟨w.heap.size + 1, 0, none⟩ = some (.int .i64 kind)) => turned_calls_ x _ W 93 #[.pointer (some ⟨w.heap.size + 1, 0, none⟩)] (listF kind) (hX.below hW) hz (hG.below hW) (enters_of Tryd.func93 (by kernel_rfl) rfl) (list_turns_ W kind _ hk))
  obtain ⟨F1, F1', F2, F3⟩ := three_boxes_ w (.cells #[.int .i64 x.q, .slice A1 x.ls.length c1, .int .i64 x.k, .slice A3 x.cs.length c3] 38) (.cells #[.int .i64 kind] 3) (.cells #[.int .i64 0, .slice none 0 0, .int .i64 0, .slice none 0 0] 38)
  clear h1 h3 hc1 hc3 hz hG hX
  by_cases k0_ : kind = 0
  · have t0 : (kind != 0) = false := bne_eq_false_iff_eq.mpr k0_
    have HR := Aside0.mk (show listR kind x = turnR (listF kind) x by unfold listR; rw [if_pos (.inl k0_)])
    clear k0_
    rw [HR.out]
    generalize turnR (listF kind) x = r at HC ⊢
    obtain ⟨y, ey⟩ := r
    go_enter Tryd.func46, Tryd.ntmps46
    go_upto_region 1 with (fail)
    generalize ((w.alloc (.cells #[.int .i64 x.q, .slice A1 x.ls.length c1, .int .i64 x.k, .slice A3 x.cs.length c3] 38)).alloc (.cells #[.int .i64 kind] 3)).alloc (.cells #[.int .i64 0, .slice none 0 0, .int .i64 0, .slice none 0 0] 38) = W0 at F1 F1' F2 F3 ⊢
    have a0 : W0.cell? ⟨w.heap.size, 0, none⟩ = some (.int .i64 x.q) := (blk_cell F1 0).trans rfl
    have a1 : W0.cell? ⟨w.heap.size, 1, none⟩ = some (.slice A1 x.ls.length c1) := (blk_cell F1 1).trans rfl
    have a2 : W0.cell? ⟨w.heap.size, 2, none⟩ = some (.int .i64 x.k) := (blk_cell F1 2).trans rfl
    have a3 : W0.cell? ⟨w.heap.size, 3, none⟩ = some (.slice A3 x.cs.length c3) := (blk_cell F1 3).trans rfl
    have k0 : W0.cell? ⟨w.heap.size + 1, 0, none⟩ = some (.int .i64 kind) := (blk_cell F1' 0).trans rfl
    have H2 := Aside0.mk F2
    have H3 := Aside0.mk F3
    clear F1 F1' F2 F3
    go_wp2_with (go_at_call 88; refine (HC.out _ H3.out k0).mono ?_; rintro e w1 hbk; obtain ⟨B1, d1, B3, d3, rfl, hw, hb⟩ := hbk.low (w := w); have HW := Aside0.mk hw; have HB1 := Aside0.mk hb; have fb := blk_below H2.out hb; have e0 := blk_frozen fb 0; have e1 := blk_frozen fb 1; have e2 := blk_frozen fb 2; have e3 := blk_frozen fb 3; have b0 : w1.cell? ⟨w.heap.size + 2, 0, none⟩ = some (.int .i64 0) := (blk_cell fb 0).trans rfl; have b1 : w1.cell? ⟨w.heap.size + 2, 1, none⟩ = some (.slice none 0 0) := (blk_cell fb 1).trans rfl; have b2 : w1.cell? ⟨w.heap.size + 2, 2, none⟩ = some (.int .i64 0) := (blk_cell fb 2).trans rfl; have b3 : w1.cell? ⟨w.heap.size + 2, 3, none⟩ = some (.slice none 0 0) := (blk_cell fb 3).trans rfl; have FB := Aside0.mk fb; clear hw hb fb)
    refine bodyPost_ret (results_ct rfl _ _ (w.heap.size + 2) 38 #[.int .i64 y.q, .slice B1 y.ls.length d1, .int .i64 y.k, .slice B3 y.cs.length d3] (0, 0) _ rfl (put4_blk FB.out) Tryd.underlying38 rfl (by kernel_rfl)) rfl ?_
    exact ⟨_, rfl, put4_WrL (HW.out.lower (below_size H3.out)) FB.out, put4_below (below_step H3.out HB1.out) (by omega)⟩
  have t0 : (kind != 0) = true := bne_iff_ne.mpr k0_
  by_cases k1_ : kind = 1
  · have t1 : (kind != 1) = false := bne_eq_false_iff_eq.mpr k1_
    have HR := Aside0.mk (show listR kind x = turnR (listF kind) x by unfold listR; rw [if_pos (.inr k1_)])
    clear k0_ k1_
    rw [HR.out]
    generalize turnR (listF kind) x = r at HC ⊢
    obtain ⟨y, ey⟩ := r
    go_enter Tryd.func46, Tryd.ntmps46
    go_upto_region 1 with (fail)
    generalize ((w.alloc (.cells #[.int .i64 x.q, .slice A1 x.ls.length c1, .int .i64 x.k, .slice A3 x.cs.length c3] 38)).alloc (.cells #[.int .i64 kind] 3)).alloc (.cells #[.int .i64 0, .slice none 0 0, .int .i64 0, .slice none 0 0] 38) = W0 at F1 F1' F2 F3 ⊢
    have a0 : W0.cell? ⟨w.heap.size, 0, none⟩ = some (.int .i64 x.q) := (blk_cell F1 0).trans rfl
    have a1 : W0.cell? ⟨w.heap.size, 1, none⟩ = some (.slice A1 x.ls.length c1) := (blk_cell F1 1).trans rfl
    have a2 : W0.cell? ⟨w.heap.size, 2, none⟩ = some (.int .i64 x.k) := (blk_cell F1 2).trans rfl
    have a3 : W0.cell? ⟨w.heap.size, 3, none⟩ = some (.slice A3 x.cs.length c3) := (blk_cell F1 3).trans rfl
    have k0 : W0.cell? ⟨w.heap.size + 1, 0, none⟩ = some (.int .i64 kind) := (blk_cell F1' 0).trans rfl
    have H2 := Aside0.mk F2
    have H3 := Aside0.mk F3
    clear F1 F1' F2 F3
    go_wp2_with (go_at_call 88; refine (HC.out _ H3.out k0).mono ?_; rintro e w1 hbk; obtain ⟨B1, d1, B3, d3, rfl, hw, hb⟩ := hbk.low (w := w); have HW := Aside0.mk hw; have HB1 := Aside0.mk hb; have fb := blk_below H2.out hb; have e0 := blk_frozen fb 0; have e1 := blk_frozen fb 1; have e2 := blk_frozen fb 2; have e3 := blk_frozen fb 3; have b0 : w1.cell? ⟨w.heap.size + 2, 0, none⟩ = some (.int .i64 0) := (blk_cell fb 0).trans rfl; have b1 : w1.cell? ⟨w.heap.size + 2, 1, none⟩ = some (.slice none 0 0) := (blk_cell fb 1).trans rfl; have b2 : w1.cell? ⟨w.heap.size + 2, 2, none⟩ = some (.int .i64 0) := (blk_cell fb 2).trans rfl; have b3 : w1.cell? ⟨w.heap.size + 2, 3, none⟩ = some (.slice none 0 0) := (blk_cell fb 3).trans rfl; have FB := Aside0.mk fb; clear hw hb fb)
    refine bodyPost_ret (results_ct rfl _ _ (w.heap.size + 2) 38 #[.int .i64 y.q, .slice B1 y.ls.length d1, .int .i64 y.k, .slice B3 y.cs.length d3] (0, 0) _ rfl (put4_blk FB.out) Tryd.underlying38 rfl (by kernel_rfl)) rfl ?_
    exact ⟨_, rfl, put4_WrL (HW.out.lower (below_size H3.out)) FB.out, put4_below (below_step H3.out HB1.out) (by omega)⟩
  have t1 : (kind != 1) = true := bne_iff_ne.mpr k1_
  have HR := Aside0.mk (show listR kind x = (zeroLn, 1) by unfold listR; rw [if_neg (by omega)])
  clear k0_ k1_
  go_enter Tryd.func46, Tryd.ntmps46
  go_upto_region 1 with (fail)
  generalize ((w.alloc (.cells #[.int .i64 x.q, .slice A1 x.ls.length c1, .int .i64 x.k, .slice A3 x.cs.length c3] 38)).alloc (.cells #[.int .i64 kind] 3)).alloc (.cells #[.int .i64 0, .slice none 0 0, .int .i64 0, .slice none 0 0] 38) = W0 at F1 F1' F2 F3 ⊢
  have a0 : W0.cell? ⟨w.heap.size, 0, none⟩ = some (.int .i64 x.q) := (blk_cell F1 0).trans rfl
  have a1 : W0.cell? ⟨w.heap.size, 1, none⟩ = some (.slice A1 x.ls.length c1) := (blk_cell F1 1).trans rfl
  have a2 : W0.cell? ⟨w.heap.size, 2, none⟩ = some (.int .i64 x.k) := (blk_cell F1 2).trans rfl
  have a3 : W0.cell? ⟨w.heap.size, 3, none⟩ = some (.slice A3 x.cs.length c3) := (blk_cell F1 3).trans rfl
  have k0 : W0.cell? ⟨w.heap.size + 1, 0, none⟩ = some (.int .i64 kind) := (blk_cell F1' 0).trans rfl
  have H2 := Aside0.mk F2
  have H3 := Aside0.mk F3
  have e0 := blk_frozen F2 0
  have e1 := blk_frozen F2 1
  have e2 := blk_frozen F2 2
  have e3 := blk_frozen F2 3
  have b0 : W0.cell? ⟨w.heap.size + 2, 0, none⟩ = some (.int .i64 0) := (blk_cell F2 0).trans rfl
  have b1 : W0.cell? ⟨w.heap.size + 2, 1, none⟩ = some (.slice none 0 0) := (blk_cell F2 1).trans rfl
  have b2 : W0.cell? ⟨w.heap.size + 2, 2, none⟩ = some (.int .i64 0) := (blk_cell F2 2).trans rfl
  have b3 : W0.cell? ⟨w.heap.size + 2, 3, none⟩ = some (.slice none 0 0) := (blk_cell F2 3).trans rfl
  clear F1 F1' F2 F3 HC
  go_wp2
  refine bodyPost_ret (results_ct rfl _ _ (w.heap.size + 2) 38 #[.int .i64 0, .slice none 0 0, .int .i64 0, .slice none 0 0] (0, 0) _ rfl (put4_blk H2.out) Tryd.underlying38 rfl (by kernel_rfl)) rfl ?_
  exact ⟨_, by rw [HR.out]; rfl, by rw [HR.out]; exact WrL_zero _ _, put4_below H3.out (by omega)⟩
end Go.Proofs.YtgdpknmffohhaaaDoor.Pl

/- What turning a line comes to, in plain words. -/
namespace Go.Proofs.YtgdpknmffohhaaaDoor.Pl
open Go.RowKit Go.Lib Go.Proofs.YtgdpknmffohhaaaDoorW.PrintWords Go.Proofs.YtgdpknmffohhaaaDoorW.PrintLast Go.Proofs.YtgdpknmffohhaaaDoorW.PrintMore
set_option linter.unusedVariables false
/-- a line in a box -/
def MBox (W : World) (b : Nat) (x : Ln) : Prop := ∃ B1 d1 B3 d3, Box_ W b x.q (.slice B1 x.ls.length d1) x.k (.slice B3 x.cs.length d3) ∧ RdL W (.agg #[.int .i64 x.q, .slice B1 x.ls.length d1, .int .i64 x.k, .slice B3 x.cs.length d3]) x
theorem MBox.below {W W1 : World} {b : Nat} {x : Ln} (h : MBox W b x) (hb : Below W.heap.size W W1) : MBox W1 b x := by
  obtain ⟨B1, d1, B3, d3, h1, h2⟩ := h
  exact ⟨B1, d1, B3, d3, blk_below h1 hb, h2.below hb⟩
end Go.Proofs.YtgdpknmffohhaaaDoor.Pl

namespace Go.Proofs.YtgdpknmffohhaaaDoor.Pl
open Go.RowKit Go.Proofs.YtgdpknmffohhaaaDoorW.PrintWords Go.Proofs.YtgdpknmffohhaaaDoorW.PrintLast Go.Proofs.YtgdpknmffohhaaaDoorW.PrintMore
attribute [local go_sem] max2_int min2_int max_two min_two max_three min_three max_four min_four   -- for this text's walks alone
set_option linter.unusedVariables false
set_option linter.unusedSimpArgs false

/-! ### quillworkref06_ints: function 80 -/
def quillworkref06_ints.l0 : Nat → List Int → List Int → Int → Option (Bool)
  | 0, _, _, _ => none
  | k + 1, x0, x1, x5 => if x5 < (x0.length : Int) then (if 0 ≤ x5 then (if x5 < (x1.length : Int) then (if (rd x0 x5) = (rd x1 x5) then (quillworkref06_ints.l0 k x0 x1 (wrap64 (x5 + 1))) else (some false)) else (none)) else (none)) else (some true)
def quillworkref06_ints.f (k : Nat) (l0 : List Int) (l1 : List Int) : Option (Bool) := if (l0.length : Int) = (l1.length : Int) then (quillworkref06_ints.l0 k l0 l1 0) else (some false)
set_option maxHeartbeats 8000000 in
set_option maxRecDepth 100000 in
theorem quillworkref06_ints.calls (k : Nat) (A0 : Option Addr) (c0 : Nat) (l0 : List Int) (A1 : Option Addr) (c1 : Nat) (l1 : List Int) (r : Bool) (w : World) (hr0 : Kd.C (Kd.int .i64) w A0 l0.length l0) (hc0 : l0.length ≤ c0) (hr1 : Kd.C (Kd.int .i64) w A1 l1.length l1) (hc1 : l1.length ≤ c1) (h : quillworkref06_ints.f k l0 l1 = some r) :
    Calls Tryd.prog 80 #[.slice A0 l0.length c0, .slice A1 l1.length c1] w fun e w' => e = .returned (.bool r) ∧ Drawn0 w w' := by
  have HR0 := Aside0.mk hr0
  have HC0 := Aside0.mk hc0
  clear hr0 hc0
  have HR1 := Aside0.mk hr1
  have HC1 := Aside0.mk hc1
  clear hr1 hc1
  have H : (if (l0.length : Int) = (l1.length : Int) then (quillworkref06_ints.l0 k l0 l1 0) else (some false)) = some r := h
  clear h
  by_cases c3 : (l0.length : Int) = (l1.length : Int)
  · rw [if_pos c3] at H
    have c3b0 : ((l0.length : Int) == (l1.length : Int)) = true := beq_iff_eq.mpr c3
    have c3b1 : ((l0.length : Int) != (l1.length : Int)) = false := bne_eq_false_iff_eq.mpr c3
    have c3b2 : (l0.length == l1.length) = true := by first | simpa using c3 | (simp at c3 ⊢; omega)
    clear c3
    have H' := Aside0.mk H
    clear H
    go_enter Tryd.func80, Tryd.ntmps80
    go_wp2
    repeat (go_quiet (fail); try go_wp2)
    go_loopg [5] k (fun kq v5 w' => ∃ (x5_1 : Int), v5 = .int .i64 x5_1 ∧ Aside0 (quillworkref06_ints.l0 kq l0 l1 x5_1 = some r) ∧ Aside0 (kq ≤ k) ∧ Drawn0 w w')
    case atStart => exact ⟨(0), (by first | rfl | (simp; done) | (simp [*]; done)), H', ⟨Nat.le_refl _⟩, by repeat (first | exact Drawn0.refl _ | apply Drawn0.step)⟩
    case round =>
      clear H'
      try clear c1
      try clear p2
      try clear c3
      try clear c3b0
      try clear c3b1
      try clear c3b2
      obtain ⟨x5_1, rfl, HA, HK1, ⟨m1, rfl⟩⟩ := hrel
      cases gk with
      | zero => exact absurd HA.out (by simp [quillworkref06_ints.l0])
      | succ k1 =>
        have H := HA.out
        clear HA
        simp only [quillworkref06_ints.l0] at H
        by_cases c4 : x5_1 < (l0.length : Int)
        · rw [if_pos c4] at H
          have c4b0 : decide (x5_1 < (l0.length : Int)) = true := decide_eq_true c4
          clear c4
          by_cases c5 : 0 ≤ x5_1
          · rw [if_pos c5] at H
            have c5b0 : decide (0 ≤ x5_1) = true := decide_eq_true c5
            clear c5
            by_cases c6 : x5_1 < (l1.length : Int)
            · rw [if_pos c6] at H
              have c6b0 : decide (x5_1 < (l1.length : Int)) = true := decide_eq_true c6
              clear c6
              by_cases c7 : (rd l0 x5_1) = (rd l1 x5_1)
              · rw [if_pos c7] at H
                have c7b0 : ((rd l0 x5_1) == (rd l1 x5_1)) = true := beq_iff_eq.mpr c7
                have c7b1 : ((rd l0 x5_1) != (rd l1 x5_1)) = false := bne_eq_false_iff_eq.mpr c7
                clear c7
                have H' := Aside0.mk H
                clear H
                have p426 : 0 ≤ (x5_1 : Int) := of_decide_eq_true (by first | (with_reducible assumption) | assumption)
                have q426 : x5_1 < (l0.length : Int) := of_decide_eq_true (by first | (with_reducible assumption) | assumption)
                obtain ⟨ad426, e426, hx426_0⟩ := Kd.at_int HR0.out x5_1 p426 q426
                cases e426
                replace p426 := eq_true p426
                replace q426 := eq_true q426
                have p427 : 0 ≤ (x5_1 : Int) := of_decide_eq_true (by first | (with_reducible assumption) | assumption)
                have q427 : x5_1 < (l1.length : Int) := of_decide_eq_true (by first | (with_reducible assumption) | assumption)
                obtain ⟨ad427, e427, hx427_0⟩ := Kd.at_int HR1.out x5_1 p427 q427
                cases e427
                replace p427 := eq_true p427
                replace q427 := eq_true q427
                go_wp2
                repeat (go_quiet (fail); try go_wp2)
                go_roundg k1
                case measure => have := HK1.out; omega
                case rel => exact ⟨(wrap64 (x5_1 + 1)), (by first | rfl | (simp; done) | (simp [*]; done)), H', ⟨by have := HK1.out; omega⟩, by repeat (first | exact Drawn0.refl _ | apply Drawn0.step)⟩
              · rw [if_neg c7] at H
                have c7b0 : ((rd l0 x5_1) == (rd l1 x5_1)) = false := beq_eq_false_iff_ne.mpr c7
                have c7b1 : ((rd l0 x5_1) != (rd l1 x5_1)) = true := bne_iff_ne.mpr c7
                obtain rfl := Option.some.inj H
                have p426 : 0 ≤ (x5_1 : Int) := of_decide_eq_true (by first | (with_reducible assumption) | assumption)
                have q426 : x5_1 < (l0.length : Int) := of_decide_eq_true (by first | (with_reducible assumption) | assumption)
                obtain ⟨ad426, e426, hx426_0⟩ := Kd.at_int HR0.out x5_1 p426 q426
                cases e426
                replace p426 := eq_true p426
                replace q426 := eq_true q426
                have p427 : 0 ≤ (x5_1 : Int) := of_decide_eq_true (by first | (with_reducible assumption) | assumption)
                have q427 : x5_1 < (l1.length : Int) := of_decide_eq_true (by first | (with_reducible assumption) | assumption)
                obtain ⟨ad427, e427, hx427_0⟩ := Kd.at_int HR1.out x5_1 p427 q427
                cases e427
                replace p427 := eq_true p427
                replace q427 := eq_true q427
                go_wp2
                repeat (go_quiet (fail); try go_wp2)
                go_ret
                exact ⟨by first | rfl | (simp; done) | (simp [*]; done), by repeat (first | exact Drawn0.refl _ | apply Drawn0.step)⟩
            · rw [if_neg c6] at H
              exact absurd H (by simp)
          · rw [if_neg c5] at H
            exact absurd H (by simp)
        · rw [if_neg c4] at H
          have c4b0 : decide (x5_1 < (l0.length : Int)) = false := decide_eq_false c4
          clear c4
          obtain rfl := Option.some.inj H
          go_wp2
          repeat (go_quiet (fail); try go_wp2)
          go_ret
          exact ⟨by first | rfl | (simp; done) | (simp [*]; done), by repeat (first | exact Drawn0.refl _ | apply Drawn0.step)⟩
  · rw [if_neg c3] at H
    have c3b0 : ((l0.length : Int) == (l1.length : Int)) = false := beq_eq_false_iff_ne.mpr c3
    have c3b1 : ((l0.length : Int) != (l1.length : Int)) = true := bne_iff_ne.mpr c3
    have c3b2 : (l0.length == l1.length) = false := by first | simpa using c3 | (simp at c3 ⊢; omega)
    obtain rfl := Option.some.inj H
    go_enter Tryd.func80, Tryd.ntmps80
    go_wp2
    repeat (go_quiet (fail); try go_wp2)
    go_ret
    exact ⟨by first | rfl | (simp; done) | (simp [*]; done), by repeat (first | exact Drawn0.refl _ | apply Drawn0.step)⟩

end Go.Proofs.YtgdpknmffohhaaaDoor.Pl
