/- A handed-in line, opened: what its fields are. -/
import Derived.Test.YtgdpknmffohhaaaDoorM0
import Derived.Deep.Slices
import Derived.Deep.Fields
import Derived.ChangeSame
import Derived.ChangeOld
import Derived.SizedLaws
namespace Go.Proofs.YtgdpknmffohhaaaDoor.Pl
open Go.RowKit Go.Proofs.YtgdpknmffohhaaaDoorW.PrintWords Go.Proofs.YtgdpknmffohhaaaDoorW.PrintLast Go.Proofs.YtgdpknmffohhaaaDoorW.PrintMore
section
open Go.ChangeShapes Go.WideShapes Go.Deep
variable {H : Type} {enc : TypeId × Value → H} {W : World} {base : Nat} {spare : Nat → Bool} {held : Bool}
theorem weightsAll_mem_ {P : Program} {e : TypeId} : ∀ {ds : List (DataW H)} {d : DataW H}, d ∈ ds → ∀ n ∈ d.weights P e, n ∈ DataW.weightsAll P e ds
  | d0 :: ds, d, hd, n, hn => by
    simp only [DataW.weightsAll, List.mem_append]
    rcases List.mem_cons.1 hd with rfl | hd
    · exact Or.inl hn
    · exact Or.inr (weightsAll_mem_ hd n hn)
  | [], _, hd, _, _ => by cases hd
set_option maxRecDepth 100000 in
theorem open_cellsF_ {fuel : Nat} {v : Value} {d : DataW H} {p : List MemPlace} (h : DataW.trod enc Tryd.prog W base spare held fuel 36 [v] = some (d, p)) (hw : ∀ n ∈ DataW.weights Tryd.prog 36 d, n ≤ reachBytes) :
    ∃ l : List S71, Rd k71 W v l ∧ ∀ x ∈ l, x.f2.size ≤ 140737488355328 := by
  have hC : Tryd.prog.cellsOf 71 = 3 := by kernel_rfl
  rcases open_slice Tryd.underlying36 h with ⟨hcs, _⟩ | ⟨x, l, c, m, n, D, Pl, hcs, _, hl, hm, hmm, hx, hi⟩
  · simp only [List.cons.injEq, and_true] at hcs
    subst hcs
    exact ⟨[], Rd_nil _ _, by simp⟩
  · simp only [List.cons.injEq, and_true] at hcs
    subst hcs
    have hlm : l ≤ m := by rw [hmm]; split <;> omega
    have hd : d = .slice ((List.range l).map D) ((List.range (m - l)).map fun j => D (l + j)) := congrArg Prod.fst hx
    have hel : ∀ i, i < l → ∃ z : S71, z.f2.size ≤ 140737488355328 ∧ W.cell? (x.add (i * 3)) = some (.int .i32 z.f0) ∧ W.cell? (x.add (i * 3 + 1)) = some (.int .i64 z.f1) ∧ W.cell? (x.add (i * 3 + 2)) = some (.string z.f2) := by
      intro i hil
      obtain ⟨cs', hc, ht'⟩ := hi i (by omega)
      rw [hC] at hc
      obtain ⟨ys, n', hn', hy, hlen, hyl, hf'⟩ := DataW.trod_struct Tryd.underlying71 ht'
      have hD : D i = .agg (ys.map (·.1)) := congrArg Prod.fst hy
      obtain ⟨_, hcl, hat⟩ := World.cells?_some hc
      match cs', hcl with
      | [u0, u1, u2], _ =>
        have g0 := hf' 0 _ rfl
        have g1 := hf' 1 _ rfl
        have g2 := hf' 2 _ rfl
        have h0 := hat 0 (by decide)
        have h1 := hat 1 (by decide)
        have h2 := hat 2 (by decide)
        replace g0 : DataW.trod enc Tryd.prog W base spare held n' 21 (([u0, u1, u2].drop 0).take (Tryd.prog.cellsOf 21)) = ys[0]? := g0
        replace g1 : DataW.trod enc Tryd.prog W base spare held n' 3 (([u0, u1, u2].drop 1).take (Tryd.prog.cellsOf 3)) = ys[1]? := g1
        replace g2 : DataW.trod enc Tryd.prog W base spare held n' 9 (([u0, u1, u2].drop 2).take (Tryd.prog.cellsOf 9)) = ys[2]? := g2
        rw [show Tryd.prog.cellsOf 21 = 1 by kernel_rfl] at g0
        rw [show Tryd.prog.cellsOf 3 = 1 by kernel_rfl] at g1
        rw [show Tryd.prog.cellsOf 9 = 1 by kernel_rfl] at g2
        have hys : ∀ j, j < 3 → ∃ y, ys[j]? = some y := fun j hj => ⟨_, List.getElem?_eq_getElem (by rw [hyl]; exact hj)⟩
        obtain ⟨y0, e0⟩ := hys 0 (by omega)
        obtain ⟨y1, e1⟩ := hys 1 (by omega)
        obtain ⟨y2, e2⟩ := hys 2 (by omega)
        rw [e0] at g0; rw [e1] at g1; rw [e2] at g2
        obtain ⟨n0, q0, _, w0⟩ := DataW.trod_int Tryd.underlying21 g0
        obtain ⟨n1, q1, _, w1⟩ := DataW.trod_int Tryd.underlying3 g1
        obtain ⟨s, q2, dq, w2⟩ := DataW.trod_string Tryd.underlying9 g2
        cases q0; cases q1; cases q2
        refine ⟨⟨n0, n1, s⟩, ?_, ?_, ?_, ?_⟩
        · have hdm : D i ∈ (List.range l).map D := List.mem_map.2 ⟨i, List.mem_range.2 hil, rfl⟩
          have hsz : s.data.toList.length ∈ DataW.weights Tryd.prog 36 d := by
            rw [hd]
            simp only [DataW.weights, Tryd.underlying36, List.mem_cons, List.mem_append]
            refine Or.inr (Or.inl (weightsAll_mem_ hdm _ ?_))
            rw [hD]
            simp only [DataW.weights, Tryd.underlying71]
            refine DataW.weights_mem_each (j := 2) (t := 9) (d := y2.1) rfl (by rw [List.getElem?_map, e2]; rfl) _ ?_
            have : y2.1 = .lit (.string s.data.toList) := congrArg Prod.fst dq
            rw [this]
            simp [DataW.weights]
          have h1 := hw _ hsz
          have h2 : s.data.toList.length = s.size := by exact (data_length s)
          have h3 := reachBytes_lt
          dsimp only
          omega
        · exact h0
        · rw [← Go.Deep.add_add]; exact h1
        · rw [← Go.Deep.add_add]; exact h2
    have : Inhabited S71 := ⟨z71⟩
    obtain ⟨f, hf2⟩ := choose_lt hel
    have hll : ((List.range l).map f).length = l := by simp
    refine ⟨(List.range l).map f, ⟨some x, c, by rw [hll], ⟨rfl, by rw [hll]; unfold maxLen at hm; omega, fun _ => ⟨x, rfl, fun j p hj => ?_⟩⟩, by rw [hll]; exact hl⟩, ?_⟩
    · have hjl : j < l := by
        have := (List.getElem?_eq_some_iff.1 hj).1
        omega
      obtain rfl : f j = p := by
        rw [List.getElem?_map, List.getElem?_range hjl] at hj
        simpa using hj
      obtain ⟨_, b0, b1, b2⟩ := hf2 j hjl
      refine ⟨[.int .i32 (f j).f0, .int .i64 (f j).f1, .string (f j).f2], rfl, k71_mk _ _, fun i u hu => ?_⟩
      match i with
      | 0 => cases hu; exact b0
      | 1 => cases hu; exact b1
      | 2 => cases hu; exact b2
      | i + 3 => cases hu
    · intro z hz
      obtain ⟨i, hi', rfl⟩ := List.mem_map.1 hz
      exact (hf2 i (List.mem_range.1 hi')).1
theorem open_intsF_ {fuel : Nat} {v : Value} {d : DataW H} {p : List MemPlace} (h : DataW.trod enc Tryd.prog W base spare held fuel 35 [v] = some (d, p)) : ∃ l : List Int, Rd (Kd.int .i64) W v l := by
  rcases open_slice1 Tryd.underlying35 (by kernel_rfl) h with ⟨hcs, _⟩ | ⟨x, l, c, m, n, V, D, Pl, hcs, _, hl, hm, hmm, _, hi⟩
  · simp only [List.cons.injEq, and_true] at hcs
    subst hcs
    exact ⟨[], Rd_nil _ _⟩
  · simp only [List.cons.injEq, and_true] at hcs
    subst hcs
    have hlm : l ≤ m := by rw [hmm]; split <;> omega
    have hel : ∀ i, i < l → ∃ z : Int, W.cell? (x.add i) = some (.int .i64 z) := by
      intro i hil
      obtain ⟨hc, ht'⟩ := hi i (by omega)
      obtain ⟨n0, q0, _, _⟩ := DataW.trod_int Tryd.underlying3 ht'
      have q1 : V i = .int .i64 n0 := by simpa using q0
      rw [q1] at hc
      exact ⟨n0, hc⟩
    obtain ⟨f, hf2⟩ := choose_lt hel
    have hll : ((List.range l).map f).length = l := by simp
    refine ⟨(List.range l).map f, ⟨some x, c, by rw [hll], ⟨rfl, by rw [hll]; unfold maxLen at hm; omega, fun _ => ⟨x, rfl, fun j p hj => ?_⟩⟩, by rw [hll]; exact hl⟩⟩
    have hjl : j < l := by
      have := (List.getElem?_eq_some_iff.1 hj).1
      omega
    obtain rfl : f j = p := by
      rw [List.getElem?_map, List.getElem?_range hjl] at hj
      simpa using hj
    refine ⟨[.int .i64 (f j)], rfl, rfl, fun i u hu => ?_⟩
    cases i with
    | zero =>
      cases hu
      rw [show j * (Kd.int .i64).sz + 0 = j from by show j * 1 + 0 = j; omega]
      exact hf2 j hjl
    | succ i => simp at hu
set_option maxRecDepth 100000 in
theorem open_lineF_ {fuel : Nat} {cs : List Value} {d : DataW H} {p : List MemPlace} (h : DataW.trod enc Tryd.prog W base spare held fuel 38 cs = some (d, p)) (hw : ∀ n ∈ DataW.weights Tryd.prog 38 d, n ≤ reachBytes) :
    ∃ (x : Ln) (v1 v3 : Value), cs = [.int .i64 x.q, v1, .int .i64 x.k, v3] ∧ Rd (Kd.int .i64) W v1 x.ls ∧ Rd k71 W v3 x.cs ∧ ∀ c ∈ x.cs, c.f2.size ≤ 140737488355328 := by
  obtain ⟨ys, n', hn', hy, hlen, hyl, hf'⟩ := DataW.trod_struct Tryd.underlying38 h
  have hD : d = .agg (ys.map (·.1)) := congrArg Prod.fst hy
  rw [show Tryd.prog.cellsOf 38 = 4 by kernel_rfl] at hlen
  match cs, hlen with
  | [u0, u1, u2, u3], _ =>
    have g0 := hf' 0 _ rfl
    have g1 := hf' 1 _ rfl
    have g2 := hf' 2 _ rfl
    have g3 := hf' 3 _ rfl
    replace g0 : DataW.trod enc Tryd.prog W base spare held n' 3 (([u0, u1, u2, u3].drop 0).take (Tryd.prog.cellsOf 3)) = ys[0]? := g0
    replace g1 : DataW.trod enc Tryd.prog W base spare held n' 35 (([u0, u1, u2, u3].drop 1).take (Tryd.prog.cellsOf 35)) = ys[1]? := g1
    replace g2 : DataW.trod enc Tryd.prog W base spare held n' 3 (([u0, u1, u2, u3].drop 2).take (Tryd.prog.cellsOf 3)) = ys[2]? := g2
    replace g3 : DataW.trod enc Tryd.prog W base spare held n' 36 (([u0, u1, u2, u3].drop 3).take (Tryd.prog.cellsOf 36)) = ys[3]? := g3
    rw [show Tryd.prog.cellsOf 3 = 1 by kernel_rfl] at g0 g2
    rw [show Tryd.prog.cellsOf 35 = 1 by kernel_rfl] at g1
    rw [show Tryd.prog.cellsOf 36 = 1 by kernel_rfl] at g3
    have hys : ∀ j, j < 4 → ∃ y, ys[j]? = some y := fun j hj => ⟨_, List.getElem?_eq_getElem (by rw [hyl]; exact hj)⟩
    obtain ⟨y0, e0⟩ := hys 0 (by omega)
    obtain ⟨y1, e1⟩ := hys 1 (by omega)
    obtain ⟨y2, e2⟩ := hys 2 (by omega)
    obtain ⟨y3, e3⟩ := hys 3 (by omega)
    rw [e0] at g0; rw [e1] at g1; rw [e2] at g2; rw [e3] at g3
    obtain ⟨n0, q0, _, w0⟩ := DataW.trod_int Tryd.underlying3 g0
    obtain ⟨n2, q2, _, w2⟩ := DataW.trod_int Tryd.underlying3 g2
    obtain ⟨ls, hls⟩ := open_intsF_ (v := u1) (d := y1.1) (p := y1.2) g1
    obtain ⟨cl, hcl, hcz⟩ := open_cellsF_ (v := u3) (d := y3.1) (p := y3.2) g3 (fun n hn => hw n (by
      rw [hD]
      simp only [DataW.weights, Tryd.underlying38]
      exact DataW.weights_mem_each (j := 3) (t := 36) (d := y3.1) rfl (by rw [List.getElem?_map, e3]; rfl) n hn))
    cases q0; cases q2
    exact ⟨⟨n0, ls, n2, cl⟩, u1, u3, rfl, hls, hcl, hcz⟩
set_option maxRecDepth 100000 in
theorem open_line_ {b0 : Nat} {v : Value} {d : DataW H} {p : List MemPlace} (hv : Value.okWide Tryd.prog W .any b0 38 v) (h : DataW.Trod enc Tryd.prog W base spare held 38 v d p) (hw : ∀ n ∈ DataW.weights Tryd.prog 38 d, n ≤ reachBytes) :
    ∃ x : Ln, RdL W v x ∧ ∀ c ∈ x.cs, c.f2.size ≤ 140737488355328 := by
  obtain ⟨cs, rfl, _⟩ := okWide_struct Tryd.underlying38 hv
  obtain ⟨fuel, hf⟩ := h
  obtain ⟨x, v1, v3, e, h1, h3, hz⟩ := open_lineF_ (cs := cs.toList) hf hw
  refine ⟨x, ⟨v1, v3, ?_, h1, h3⟩, hz⟩
  congr 1
  exact Array.toList_inj.1 e
set_option maxRecDepth 100000 in
theorem open_intsT_ {b0 : Nat} {v : Value} {d : DataW H} {p : List MemPlace} (hv : Value.okWide Tryd.prog W .any b0 35 v) (h : DataW.Trod enc Tryd.prog W base spare held 35 v d p) : ∃ x : List Int, Rd (Kd.int .i64) W v x ∧ True := by
  obtain ⟨a, len, cap, rfl⟩ := okWide_slice Tryd.underlying35 hv
  obtain ⟨fuel, hf⟩ := h
  obtain ⟨l, hl⟩ := open_intsF_ (v := .slice a len cap) hf
  exact ⟨l, hl, trivial⟩
end
end Go.Proofs.YtgdpknmffohhaaaDoor.Pl
