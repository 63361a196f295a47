-- PRINTED by print.py (a twelfth state) out of the translation. Not trusted: Lean checks it.
import Derived.Test.YtgdpknmffohhaaaPr0
namespace Go.Proofs.Ytgdpknmffohhaaa.Pr
open Go.RowKit Go.Proofs.YtgdpknmffohhaaaW.PrintWords Go.Proofs.YtgdpknmffohhaaaW.PrintLast Go.Proofs.YtgdpknmffohhaaaW.PrintMore
attribute [local go_sem] max2_int min2_int max_two min_two max_three min_three max_four min_four   -- for this text's walks alone
set_option linter.unusedVariables false
set_option linter.unusedSimpArgs false

/-! ### lib_runs -/
/-! What a round keeps of a walk over an iterator: all below n₀; and each block that is neither the variable's box o nor the row that the variable holds. -/
def WFo_ (o : Nat) (W : World) : Prop := ∀ v, W.cell? ⟨o, 0, none⟩ = some v → ∀ b, v.ownBlock = some b → b < W.heap.size
def Free_ (o : Nat) (W : World) (b : Nat) : Prop := (∃ cs t fr, W.heap[b]? = some (.cells cs t fr)) ∧ b ≠ o ∧ ∀ v, W.cell? ⟨o, 0, none⟩ = some v → v.ownBlock ≠ some b
def Kp_ (n₀ o : Nat) (W W' : World) : Prop := Below n₀ W W' ∧ (WFo_ o W → WFo_ o W' ∧ ∀ b, Free_ o W b → W'.heap[b]? = W.heap[b]? ∧ Free_ o W' b)
theorem Kp_.trans {n₀ o : Nat} {A B C : World} (h : Kp_ n₀ o A B) (k : Kp_ n₀ o B C) : Kp_ n₀ o A C :=
  ⟨h.1.trans k.1, fun hw => by
    obtain ⟨h1, h2⟩ := h.2 hw
    obtain ⟨k1, k2⟩ := k.2 h1
    exact ⟨k1, fun b hb => ⟨(k2 b (h2 b hb).2).1.trans (h2 b hb).1, (k2 b (h2 b hb).2).2⟩⟩⟩
theorem Kp_.mk' {n₀ o : Nat} {A B : World} (hb : Below n₀ A B) (hkeep : ∀ b, Free_ o A b → B.heap[b]? = A.heap[b]?)
    (hnew : WFo_ o A → ∀ v', B.cell? ⟨o, 0, none⟩ = some v' → ∀ b, v'.ownBlock = some b → b < B.heap.size ∧ ((∃ v, A.cell? ⟨o, 0, none⟩ = some v ∧ v.ownBlock = some b) ∨ A.heap.size ≤ b)) : Kp_ n₀ o A B :=
  ⟨hb, fun hw => ⟨fun v' hv b he => (hnew hw v' hv b he).1, fun b hf => ⟨hkeep b hf, by
    obtain ⟨⟨cs, t, fr, hc⟩, hne, hown⟩ := hf
    refine ⟨⟨cs, t, fr, (hkeep b ⟨⟨cs, t, fr, hc⟩, hne, hown⟩).trans hc⟩, hne, fun v' hv he => ?_⟩
    rcases (hnew hw v' hv b he).2 with ⟨v, hva, hvo⟩ | hge
    · exact hown v hva hvo
    · have := (Array.getElem?_eq_some_iff.1 hc).1
      omega⟩⟩⟩
/-- Nothing that lay has turned. -/
theorem Kp_.grown {n₀ o : Nat} {A B : World} (hn : n₀ ≤ A.heap.size) (ho : o < A.heap.size) (hg : Below A.heap.size A B) : Kp_ n₀ o A B := by
  have hcell : B.cell? ⟨o, 0, none⟩ = A.cell? ⟨o, 0, none⟩ := hg.cell (p := ⟨o, 0, none⟩) ho
  refine Kp_.mk' (hg.mono hn) (fun b hf => ?_) (fun hw v' hv b he => ?_)
  · obtain ⟨⟨cs, t, fr, hc⟩, _⟩ := hf
    exact hg.block b (Array.getElem?_eq_some_iff.1 hc).1
  · rw [hcell] at hv
    exact ⟨Nat.lt_of_lt_of_le (hw v' hv b he) hg.size, .inl ⟨v', hv, he⟩⟩
theorem Kp_.putObj {n₀ o N : Nat} (hn : n₀ ≤ N) (ho : o < N) (W : World) (l : Nat) (x x' : Obj) (hl : N ≤ l) (hx : W.heap[l]? = some x) (hc : x.isCells = false) : Kp_ n₀ o W (W.putObj l x') := by
  have hg := grownBy_putObj' W l x'
  have hsz : (W.putObj l x').heap.size = W.heap.size := by simp [World.putObj]
  have hb : Below n₀ W (W.putObj l x') := (Below.refl n₀ W).grown hg (by have := (Array.getElem?_eq_some_iff.1 hx).1; omega) (fun k e => by cases e; omega)
  have hcell : (W.putObj l x').cell? ⟨o, 0, none⟩ = W.cell? ⟨o, 0, none⟩ := World.cell?_of_block (w := W) (a := ⟨o, 0, none⟩) (World.putObj_heap_other (show o ≠ l by omega))
  refine Kp_.mk' hb (fun b hf => ?_) (fun hw v' hv b he => ?_)
  · obtain ⟨⟨cs, t, fr, hcc⟩, _⟩ := hf
    refine World.putObj_heap_other (fun e => ?_)
    subst e
    rw [hx] at hcc
    cases hcc
    cases hc
  · rw [hcell] at hv
    rw [hsz]
    exact ⟨hw v' hv b he, .inl ⟨v', hv, he⟩⟩
/-- A new block is free, if the variable's row is an elder one. -/
theorem free_new_ {o : Nat} {A B : World} (hw : WFo_ o A) (ho : o < A.heap.size) (hg : Below A.heap.size A B) {b : Nat} (hb : A.heap.size ≤ b) {cs : Array Value} {t : TypeId} {fr : Nat × Nat} (hc : B.heap[b]? = some (.cells cs t fr)) : Free_ o B b := by
  have hcell : B.cell? ⟨o, 0, none⟩ = A.cell? ⟨o, 0, none⟩ := hg.cell (p := ⟨o, 0, none⟩) ho
  refine ⟨⟨cs, t, fr, hc⟩, by omega, fun v hv he => ?_⟩
  rw [hcell] at hv
  have := hw v hv b he
  omega
/-! ### The runs of a row -/
def ext_ (b : Int) (h : ByteArray) : List S30 → Nat
  | [] => 0
  | c :: t => if c.f0 ≠ 10 ∧ c.f1 = b ∧ c.f2.toList = h.toList then ext_ b h t + 1 else 0
def runAt_ (i : Nat) (c : S30) (t : List S30) : S28 := ⟨(i : Int), ((i + 1 + (if c.f0 = 10 then 0 else ext_ c.f1 c.f2 t) : Nat) : Int), c.f1, c.f2, if c.f0 = 10 then 1 else 0⟩
def runsFrom_ : Nat → Nat → List S30 → List S28
  | 0, _, _ => []
  | _ + 1, _, [] => []
  | k + 1, i, c :: t => runAt_ i c t :: runsFrom_ k (i + 1 + (if c.f0 = 10 then 0 else ext_ c.f1 c.f2 t)) (t.drop (if c.f0 = 10 then 0 else ext_ c.f1 c.f2 t))
theorem runsFrom_more_ (k : Nat) : ∀ (i : Nat) (l : List S30), l.length ≤ k → runsFrom_ k i l = runsFrom_ l.length i l := by
  induction k using Nat.strongRecOn with
  | _ k ih =>
    intro i l hk
    cases l with
    | nil => cases k <;> rfl
    | cons c t =>
      cases k with
      | zero => simp at hk
      | succ k =>
        simp only [List.length_cons] at hk ⊢
        simp only [runsFrom_]
        have hd : (t.drop (if c.f0 = 10 then 0 else ext_ c.f1 c.f2 t)).length ≤ t.length := by rw [List.length_drop]; omega
        rw [ih k (by omega) _ _ (by omega)]
        by_cases h : t.length = k
        · rw [h, ih k (by omega) _ _ (by omega)]
        · rw [ih t.length (by omega) _ _ hd]
def runs_ (l : List S30) : List S28 := runsFrom_ l.length 0 l
theorem ext_le_ (b : Int) (h : ByteArray) : ∀ l : List S30, ext_ b h l ≤ l.length
  | [] => Nat.le_refl _
  | c :: t => by
    have := ext_le_ b h t
    simp only [ext_]
    split <;> simp <;> omega
theorem runsFrom_step_ (l : List S30) (k : Nat) (c : S30) (hc : l[k]? = some c) : runsFrom_ (l.length - k) k (l.drop k) = runAt_ k c (l.drop (k + 1)) :: runsFrom_ (l.length - (k + 1 + (if c.f0 = 10 then 0 else ext_ c.f1 c.f2 (l.drop (k + 1))))) (k + 1 + (if c.f0 = 10 then 0 else ext_ c.f1 c.f2 (l.drop (k + 1)))) (l.drop (k + 1 + (if c.f0 = 10 then 0 else ext_ c.f1 c.f2 (l.drop (k + 1))))) := by
  obtain ⟨hlt, he⟩ := List.getElem?_eq_some_iff.1 hc
  obtain ⟨m, hm⟩ : ∃ m, l.length - k = m + 1 := ⟨l.length - k - 1, by omega⟩
  have e1 : l.drop k = c :: l.drop (k + 1) := by rw [List.drop_eq_getElem_cons hlt, he]
  rw [hm, e1]
  simp only [runsFrom_, List.drop_drop]
  congr 1
  have hle : (if c.f0 = 10 then 0 else ext_ c.f1 c.f2 (l.drop (k + 1))) ≤ l.length - (k + 1) := by
    split
    · exact Nat.zero_le _
    · have := ext_le_ c.f1 c.f2 (l.drop (k + 1)); rwa [List.length_drop] at this
  generalize (if c.f0 = 10 then 0 else ext_ c.f1 c.f2 (l.drop (k + 1))) = n at hle ⊢
  rw [runsFrom_more_ m _ _ (by rw [List.length_drop]; omega), List.length_drop]
theorem ext_step_ (b : Int) (h : ByteArray) (l : List S30) (j : Nat) (c : S30) (hc : l[j]? = some c) : ext_ b h (l.drop j) = if c.f0 ≠ 10 ∧ c.f1 = b ∧ c.f2.toList = h.toList then ext_ b h (l.drop (j + 1)) + 1 else 0 := by
  obtain ⟨hlt, he⟩ := List.getElem?_eq_some_iff.1 hc
  rw [List.drop_eq_getElem_cons hlt, he]
  rfl

end Go.Proofs.Ytgdpknmffohhaaa.Pr
