-- PRINTED by print.py (a twelfth state) out of the translation. Not trusted: Lean checks it.
import Derived.Test.YtgdpknmffohhaaaPr0
namespace Go.Proofs.Ytgdpknmffohhaaa.Pr
open Go.RowKit Go.Proofs.YtgdpknmffohhaaaW.PrintWords Go.Proofs.YtgdpknmffohhaaaW.PrintLast Go.Proofs.YtgdpknmffohhaaaW.PrintMore
attribute [local go_sem] max2_int min2_int max_two min_two max_three min_three max_four min_four   -- for this text's walks alone
set_option linter.unusedVariables false
set_option linter.unusedSimpArgs false

/-! ### lib_rows -/
theorem rowsN_ {W : World} {B : Nat} {ys : List (List S30)} (hn : ys.length ≤ 9223372036854775807) (h : ∀ j y, ys[j]? = some y → ∃ A c, W.cell? ⟨B, j, none⟩ = some (.slice A y.length c) ∧ y.length ≤ c ∧ Kd.C k30 W A y.length y) :
    Kd.C (Kd.slice 30 k30) W (some ⟨B, 0, none⟩) ys.length ys := by
  refine ⟨rfl, hn, fun _ => ⟨_, rfl, fun j y hj => ?_⟩⟩
  obtain ⟨A, c, hc, hl, hC⟩ := h j y hj
  refine ⟨[.slice A y.length c], rfl, ⟨A, c, rfl, hl, hC⟩, fun i u hu => ?_⟩
  cases i with
  | zero =>
    cases hu
    rw [show (Kd.slice 30 k30).sz = 1 from rfl, Nat.mul_one, Nat.add_zero, add_plain]
    exact hc
  | succ i => simp at hu
theorem infoC_ : ∃ i, Try.prog.info? 30 = some i ∧ i.size = 3 := by
  obtain ⟨i, hi, h⟩ := Option.map_eq_some_iff.1 info30
  simp only [Prod.mk.injEq] at h
  exact ⟨i, hi, h.2.1⟩
theorem takeC_ (A : Option Addr) (l : List S30) (c p : Nat) (hp : p ≤ l.length) (hc : l.length ≤ c) : ∀ W : World, (Instr.slice 22 (.slice A l.length c) none (some (.int .i64 (p : Int))) none).run Try.prog W = .ok (.slice A p c) W := by
  obtain ⟨i, hi, _⟩ := infoC_
  intro W
  have h := cut_to (P := Try.prog) 22 30 .i64 Try.underlying22 hi A l.length c (p : Int) (by omega) (by omega) hc W
  rwa [Int.toNat_natCast] at h
theorem dropC_ (A : Option Addr) (l : List S30) (c p : Nat) (hp : p ≤ l.length) (hc : l.length ≤ c) : ∃ (A1 : Option Addr) (c1 : Nat), (∀ W : World, (Instr.slice 22 (.slice A l.length c) (some (.int .i64 (p : Int))) none none).run Try.prog W = .ok (.slice A1 (l.length - p) c1) W) ∧ (l.drop p).length ≤ c1 ∧ ∀ w : World, Kd.C k30 w A l.length l → Kd.C k30 w A1 (l.drop p).length (l.drop p) := by
  obtain ⟨i, hi, hsz⟩ := infoC_
  refine ⟨if c = p then A else A.map (·.add (p * 3)), c - p, fun W => ?_, by rw [List.length_drop]; omega, fun w h => ?_⟩
  · have h := cut_from (P := Try.prog) 22 30 .i64 Try.underlying22 hi 3 hsz A l.length c (p : Int) (by omega) (by omega) W
    rwa [Int.toNat_natCast] at h
  · exact Kd.C_drop h hp hc
theorem twoRows_ (W : World) {A0 A1 : Option Addr} {c0 c1 n1 n2 : Nat} {y1 y2 : List S30} (e1 : y1.length = n1) (e2 : y2.length = n2) (h1 : n1 ≤ c0) (h2 : n2 ≤ c1) (C0 : Kd.C k30 W A0 y1.length y1) (C1 : Kd.C k30 W A1 y2.length y2) (t : TypeId) :
    Kd.C (Kd.slice 30 k30) (W.alloc (.cells #[.slice A0 n1 c0, .slice A1 n2 c1] t)) (some ⟨W.heap.size, 0, none⟩) [y1, y2].length [y1, y2] := by
  subst e1 e2
  refine rowsN_ (by simp) (fun j y hj => ?_)
  rcases j with _ | _ | j
  · cases hj
    exact ⟨A0, c0, (blk_cell (heap_alloc_new _ _) 0).trans rfl, h1, Kd.C_alloc C0 _⟩
  · cases hj
    exact ⟨A1, c1, (blk_cell (heap_alloc_new _ _) 1).trans rfl, h2, Kd.C_alloc C1 _⟩
  · simp at hj
theorem threeRows_ (W : World) {A0 A1 A2 : Option Addr} {c0 c1 c2 n1 n2 n3 : Nat} {y1 y2 y3 : List S30} (e1 : y1.length = n1) (e2 : y2.length = n2) (e3 : y3.length = n3) (h1 : n1 ≤ c0) (h2 : n2 ≤ c1) (h3 : n3 ≤ c2) (C0 : Kd.C k30 W A0 y1.length y1) (C1 : Kd.C k30 W A1 y2.length y2) (C2 : Kd.C k30 W A2 y3.length y3) (t : TypeId) :
    Kd.C (Kd.slice 30 k30) (W.alloc (.cells #[.slice A0 n1 c0, .slice A1 n2 c1, .slice A2 n3 c2] t)) (some ⟨W.heap.size, 0, none⟩) [y1, y2, y3].length [y1, y2, y3] := by
  subst e1 e2 e3
  refine rowsN_ (by simp) (fun j y hj => ?_)
  rcases j with _ | _ | _ | j
  · cases hj
    exact ⟨A0, c0, (blk_cell (heap_alloc_new _ _) 0).trans rfl, h1, Kd.C_alloc C0 _⟩
  · cases hj
    exact ⟨A1, c1, (blk_cell (heap_alloc_new _ _) 1).trans rfl, h2, Kd.C_alloc C1 _⟩
  · cases hj
    exact ⟨A2, c2, (blk_cell (heap_alloc_new _ _) 2).trans rfl, h3, Kd.C_alloc C2 _⟩
  · simp at hj

end Go.Proofs.Ytgdpknmffohhaaa.Pr
