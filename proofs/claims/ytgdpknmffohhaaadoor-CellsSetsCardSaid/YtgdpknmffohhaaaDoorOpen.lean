/- A handed-in row of cells, opened: what its fields are. -/
import Derived.Test.YtgdpknmffohhaaaDoorM0
import Derived.Deep.Slices
import Derived.Deep.Fields
import Derived.ChangeSame
import Derived.ChangeOld
namespace Go.Proofs.YtgdpknmffohhaaaDoor.Pl
open Go.RowKit Go.Proofs.YtgdpknmffohhaaaDoorW.PrintWords Go.Proofs.YtgdpknmffohhaaaDoorW.PrintLast Go.Proofs.YtgdpknmffohhaaaDoorW.PrintMore
section
open Go.ChangeShapes Go.WideShapes Go.Deep
/-- what a handed-in cell's fields are -/
def CellOk_ (x : S71) : Prop := (Lit.int .i32 x.f0).wf = true ∧ (Lit.int .i64 x.f1).wf = true ∧ x.f2.size ≤ 9223372036854775807
set_option maxRecDepth 100000 in
theorem open_cells_ {H : Type} {enc : TypeId × Value → H} {W : World} {base b0 : Nat} {spare : Nat → Bool} {held : Bool} {v : Value} {d : DataW H} {p : List MemPlace}
    (hv : Value.okWide Tryd.prog W .any b0 36 v) (h : DataW.Trod enc Tryd.prog W base spare held 36 v d p) :
    ∃ (A : Option Addr) (c : Nat) (l : List S71), v = .slice A l.length c ∧ Kd.C k71 W A l.length l ∧ l.length ≤ c ∧ (∀ x ∈ l, CellOk_ x) ∧ l.length ≤ 9223372036854775807 := by
  obtain ⟨a, len, cap, rfl⟩ := okWide_slice Tryd.underlying36 hv
  obtain ⟨fuel, hf⟩ := h
  have hC : Tryd.prog.cellsOf 71 = 3 := by kernel_rfl
  rcases open_slice Tryd.underlying36 hf with ⟨hcs, _⟩ | ⟨x, l, c, m, n, D, Pl, hcs, _, hl, hm, hmm, _, hi⟩
  · simp [Value.cells] at hcs
    obtain ⟨rfl, rfl, rfl⟩ := hcs
    exact ⟨none, 0, [], rfl, ⟨rfl, by simp, fun h => absurd h (by simp)⟩, by simp, by simp, by simp⟩
  · simp [Value.cells] at hcs
    obtain ⟨rfl, rfl, rfl⟩ := hcs
    have hlm : len ≤ m := by rw [hmm]; split <;> omega
    have hx : ∀ i, i < len → ∃ z : S71, CellOk_ z ∧ W.cell? (x.add (i * 3)) = some (.int .i32 z.f0) ∧ W.cell? (x.add (i * 3 + 1)) = some (.int .i64 z.f1) ∧ W.cell? (x.add (i * 3 + 2)) = some (.string z.f2) := by
      intro i hil
      obtain ⟨cs', hc, ht'⟩ := hi i (by omega)
      rw [hC] at hc
      obtain ⟨ys, n', hn', hy, hlen, hyl, hf'⟩ := DataW.trod_struct Tryd.underlying71 ht'
      obtain ⟨_, hcl, hat⟩ := World.cells?_some hc
      match cs', hcl with
      | [u0, u1, u2], _ =>
        have g0 := hf' 0 _ rfl
        have g1 := hf' 1 _ rfl
        have g2 := hf' 2 _ rfl
        have h0 := hat 0 (by decide)
        have h1 := hat 1 (by decide)
        have h2 := hat 2 (by decide)
        replace g0 : DataW.trod enc Tryd.prog W base spare held n' 21 (([u0, u1, u2].drop 0).take (Tryd.prog.cellsOf 21)) = ys[0]? := g0
        replace g1 : DataW.trod enc Tryd.prog W base spare held n' 3 (([u0, u1, u2].drop 1).take (Tryd.prog.cellsOf 3)) = ys[1]? := g1
        replace g2 : DataW.trod enc Tryd.prog W base spare held n' 9 (([u0, u1, u2].drop 2).take (Tryd.prog.cellsOf 9)) = ys[2]? := g2
        rw [show Tryd.prog.cellsOf 21 = 1 by kernel_rfl] at g0
        rw [show Tryd.prog.cellsOf 3 = 1 by kernel_rfl] at g1
        rw [show Tryd.prog.cellsOf 9 = 1 by kernel_rfl] at g2
        have hys : ∀ j, j < 3 → ∃ y, ys[j]? = some y := fun j hj => ⟨_, List.getElem?_eq_getElem (by rw [hyl]; exact hj)⟩
        obtain ⟨y0, e0⟩ := hys 0 (by omega)
        obtain ⟨y1, e1⟩ := hys 1 (by omega)
        obtain ⟨y2, e2⟩ := hys 2 (by omega)
        rw [e0] at g0; rw [e1] at g1; rw [e2] at g2
        obtain ⟨n0, q0, _, w0⟩ := DataW.trod_int Tryd.underlying21 g0
        obtain ⟨n1, q1, _, w1⟩ := DataW.trod_int Tryd.underlying3 g1
        obtain ⟨s, q2, _, w2⟩ := DataW.trod_string Tryd.underlying9 g2
        cases q0; cases q1; cases q2
        refine ⟨⟨n0, n1, s⟩, ⟨w0, w1, by simpa [maxLen] using w2⟩, ?_, ?_, ?_⟩
        · exact h0
        · rw [← Go.Deep.add_add]; exact h1
        · rw [← Go.Deep.add_add]; exact h2
    have : Inhabited S71 := ⟨z71⟩
    obtain ⟨f, hf2⟩ := choose_lt hx
    have hll : ((List.range len).map f).length = len := by simp
    refine ⟨some x, cap, (List.range len).map f, by rw [hll], ⟨rfl, by rw [hll]; unfold maxLen at hm; omega, fun _ => ⟨x, rfl, fun j p hj => ?_⟩⟩, by rw [hll]; exact hl, ?_, by rw [hll]; unfold maxLen at hm; omega⟩
    · have hjl : j < len := by
        have := (List.getElem?_eq_some_iff.1 hj).1
        omega
      obtain rfl : f j = p := by
        rw [List.getElem?_map, List.getElem?_range hjl] at hj
        simpa using hj
      obtain ⟨_, b0, b1, b2⟩ := hf2 j hjl
      refine ⟨[.int .i32 (f j).f0, .int .i64 (f j).f1, .string (f j).f2], rfl, k71_mk _ _, fun i u hu => ?_⟩
      match i with
      | 0 => cases hu; exact b0
      | 1 => cases hu; exact b1
      | 2 => cases hu; exact b2
      | i + 3 => cases hu
    · intro z hz
      obtain ⟨i, hi', rfl⟩ := List.mem_map.1 hz
      exact (hf2 i (List.mem_range.1 hi')).1
end
end Go.Proofs.YtgdpknmffohhaaaDoor.Pl
