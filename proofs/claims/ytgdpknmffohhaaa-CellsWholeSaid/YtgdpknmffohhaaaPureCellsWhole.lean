/- The plain law of CellsWhole: the runs of a row are the row, without a gap, and no two side by side are one. -/
import Derived.Test.YtgdpknmffohhaaaPr27
import Derived.Test.YtgdpknmffohhaaaPureLib
namespace Go.Proofs.Ytgdpknmffohhaaa.Pure
open Go.RowKit Go.Proofs.Ytgdpknmffohhaaa.Pr Go.Proofs.YtgdpknmffohhaaaW.PrintWords Go.Proofs.YtgdpknmffohhaaaW.PrintLast Go.Proofs.YtgdpknmffohhaaaW.PrintMore
theorem ext_in_ (b : Int) (h : ByteArray) : ∀ (t : List S30) (j : Nat), j < ext_ b h t → ∃ c, t[j]? = some c ∧ c.f0 ≠ 10 ∧ c.f1 = b ∧ c.f2.toList = h.toList
  | [], j, hj => absurd hj (Nat.not_lt_zero _)
  | c :: t, j, hj => by
    simp only [ext_] at hj
    split at hj
    · rename_i hc
      cases j with
      | zero => exact ⟨c, rfl, hc⟩
      | succ j => exact ext_in_ b h t j (by omega)
    · exact absurd hj (Nat.not_lt_zero _)
theorem ext_out_ (b : Int) (h : ByteArray) : ∀ (t : List S30) (c : S30), t[ext_ b h t]? = some c → ¬ (c.f0 ≠ 10 ∧ c.f1 = b ∧ c.f2.toList = h.toList)
  | [], c, hc => by simp at hc
  | d :: t, c, hc => by
    simp only [ext_] at hc
    split at hc
    · exact ext_out_ b h t c (by simpa using hc)
    · rename_i hd
      simp at hc
      obtain rfl := hc
      exact hd
theorem runs_len_ : ∀ (k i : Nat) (l : List S30), (runsFrom_ k i l).length ≤ k
  | 0, _, _ => Nat.le_refl _
  | _ + 1, _, [] => Nat.zero_le _
  | k + 1, i, c :: t => by simpa [runsFrom_] using runs_len_ k _ _
theorem rdR_some_ {l : List S28} {i : Nat} {c : S28} (h : l[i]? = some c) : rd_T28 l (i : Int) = c := by
  unfold rd_T28
  rw [List.getD_eq_getElem?_getD, Int.toNat_natCast, h]
  rfl
theorem inner_ (l : List S30) (hL : l.length ≤ 20000) (rs : List S28) (i : Nat) (hi : i < rs.length) (hrs : rs.length ≤ 20000) (x : S28)
    (hprev : ∀ p, 0 < i → rs[i - 1]? = some p → x.f4 = 0 → p.f4 = 0 → x.f2 = p.f2 → x.f3.toList = p.f3.toList → False)
    (hend : Ev (fun n => quillworklaw05_CellsWhole.l0 n l rs x.f1 ((i + 1 : Nat) : Int)) true) :
    ∀ (m k : Nat), x.f1 = ((k + m : Nat) : Int) → k + m ≤ l.length → (∀ j, k ≤ j → j < k + m → ∃ c, l[j]? = some c ∧ c.f1 = x.f2 ∧ c.f2.toList = x.f3.toList ∧ (c.f0 == 10) = (x.f4 == 1)) →
      Ev (fun n => quillworklaw05_CellsWhole.l1 n l rs (i : Int) (k : Int) x.f0 x.f1 x.f2 x.f3 x.f4) true := by
  intro m
  induction m with
  | zero =>
    intro k h1 h2 h3
    refine Ev.step (f := fun n => quillworklaw05_CellsWhole.l0 n l rs x.f1 ((i + 1 : Nat) : Int)) (fun n => ?_) hend
    have e3 : wrap64 ((i : Int) + 1) = ((i + 1 : Nat) : Int) := by rw [w64_ _ (by omega)]; omega
    simp only [quillworklaw05_CellsWhole.l1]
    rw [if_neg (by omega), e3]
    by_cases g1 : (i : Int) > 0
    · rw [if_pos g1]
      by_cases g2 : x.f4 = 0
      · have e4 : wrap64 ((i : Int) - 1) = ((i - 1 : Nat) : Int) := by rw [w64_ _ (by omega)]; omega
        have hp : rs[i - 1]? = some (rs[i - 1]'(by omega)) := List.getElem?_eq_getElem (by omega)
        rw [if_pos g2, e4, if_pos (by omega), if_pos (by omega), rdR_some_ hp]
        have hq := hprev _ (by omega) hp g2
        by_cases g3 : (rs[i - 1]'(by omega)).f4 = 0
        · rw [if_pos g3]
          by_cases g4 : x.f2 = (rs[i - 1]'(by omega)).f2
          · rw [if_pos g4]
            by_cases g5 : x.f3.toList = (rs[i - 1]'(by omega)).f3.toList
            · exact (hq g3 g4 g5).elim
            · rw [if_neg g5]
          · rw [if_neg g4]
        · rw [if_neg g3]
      · rw [if_neg g2]
    · rw [if_neg g1]
  | succ m ih =>
    intro k h1 h2 h3
    obtain ⟨c, hc, c1, c2, c3⟩ := h3 k (Nat.le_refl _) (by omega)
    refine Ev.step (fun n => ?_) (ih (k + 1) (by rw [h1]; congr 1; omega) (by omega) (fun j g1 g2 => h3 j (by omega) (by omega)))
    have e3 : wrap64 ((k : Int) + 1) = ((k + 1 : Nat) : Int) := by rw [w64_ _ (by omega)]; omega
    simp only [quillworklaw05_CellsWhole.l1]
    rw [if_pos (by omega), if_pos (by omega), if_pos (by omega), rd_some_ hc, if_pos c1, if_pos c2, c3, if_neg (by simp), e3]
theorem whole_ (l : List S30) (hL : l.length ≤ 20000) : ∀ (m a i : Nat), l.length - a = m → a ≤ l.length → i ≤ (runs_ l).length → (runs_ l).drop i = runsFrom_ (l.length - a) a (l.drop a) →
    (∀ p, 0 < i → (runs_ l)[i - 1]? = some p → p.f4 = 0 → ∀ c, l[a]? = some c → ¬ (c.f0 ≠ 10 ∧ c.f1 = p.f2 ∧ c.f2.toList = p.f3.toList)) →
    Ev (fun n => quillworklaw05_CellsWhole.l0 n l (runs_ l) (a : Int) (i : Int)) true := by
  intro m
  have hR : (runs_ l).length ≤ 20000 := Nat.le_trans (runs_len_ _ _ _) hL
  induction m using Nat.strongRecOn with
  | _ m ih =>
  intro a i hm ha hi hd hp
  by_cases hal : a = l.length
  · subst hal
    rw [Nat.sub_self] at hd
    have : (runs_ l).length ≤ i := List.drop_eq_nil_iff.1 hd
    refine Ev.step (f := fun n => (quillworklaw05_awake.f n).bind fun t => some t) (fun n => ?_) (Ev.bind awake_ (Ev.now _))
    simp only [quillworklaw05_CellsWhole.l0]
    rw [if_neg (by omega), if_pos trivial]
  · have halt : a < l.length := by omega
    have hc : l[a]? = some l[a] := List.getElem?_eq_getElem halt
    rw [runsFrom_step_ l a _ hc] at hd
    generalize hce : l[a] = c at hc hd
    have hx : (runs_ l)[i]? = some (runAt_ a c (l.drop (a + 1))) := by
      have := congrArg (fun z => z[0]?) hd
      simpa [List.getElem?_drop] using this
    have hil : i < (runs_ l).length := (List.getElem?_eq_some_iff.1 hx).1
    have hd2 := congrArg (fun z => z.drop 1) hd
    simp only [List.drop_drop, List.drop_succ_cons, List.drop_zero] at hd2
    have hle : (if c.f0 = 10 then 0 else ext_ c.f1 c.f2 (l.drop (a + 1))) ≤ l.length - (a + 1) := by
      split
      · exact Nat.zero_le _
      · have := ext_le_ c.f1 c.f2 (l.drop (a + 1)); rwa [List.length_drop] at this
    have hcell : ∀ j, a ≤ j → j < a + (1 + (if c.f0 = 10 then 0 else ext_ c.f1 c.f2 (l.drop (a + 1)))) → ∃ d, l[j]? = some d ∧ d.f1 = c.f1 ∧ d.f2.toList = c.f2.toList ∧ (d.f0 == 10) = ((if c.f0 = 10 then (1 : Int) else 0) == 1) := by
      intro j h1 h2
      by_cases hja : j = a
      · subst hja
        refine ⟨c, hc, rfl, rfl, ?_⟩
        by_cases h10 : c.f0 = 10 <;> simp [h10]
      · by_cases h10 : c.f0 = 10
        · rw [if_pos h10] at h2; omega
        · rw [if_neg h10] at h2
          obtain ⟨d, e1, e2, e3, e4⟩ := ext_in_ c.f1 c.f2 (l.drop (a + 1)) (j - (a + 1)) (by omega)
          rw [List.getElem?_drop, show a + 1 + (j - (a + 1)) = j by omega] at e1
          refine ⟨d, e1, e3, e4, ?_⟩
          simp [h10, e2]
    have hnext : ∀ p, 0 < i + 1 → (runs_ l)[i + 1 - 1]? = some p → p.f4 = 0 → ∀ d, l[a + 1 + (if c.f0 = 10 then 0 else ext_ c.f1 c.f2 (l.drop (a + 1)))]? = some d → ¬ (d.f0 ≠ 10 ∧ d.f1 = p.f2 ∧ d.f2.toList = p.f3.toList) := by
      intro p _ hpp hp4 d hd'
      rw [Nat.add_sub_cancel, hx] at hpp
      cases hpp
      by_cases h10 : c.f0 = 10
      · simp [runAt_, h10] at hp4
      · rw [if_neg h10] at hd'
        exact ext_out_ c.f1 c.f2 (l.drop (a + 1)) d (by rw [List.getElem?_drop]; exact hd')
    have hgo := ih (l.length - (a + 1 + (if c.f0 = 10 then 0 else ext_ c.f1 c.f2 (l.drop (a + 1))))) (by omega) (a + 1 + (if c.f0 = 10 then 0 else ext_ c.f1 c.f2 (l.drop (a + 1)))) (i + 1) rfl (by omega) (by omega) hd2 hnext
    have hx2 : ∀ p, 0 < i → (runs_ l)[i - 1]? = some p → (runAt_ a c (l.drop (a + 1))).f4 = 0 → p.f4 = 0 → (runAt_ a c (l.drop (a + 1))).f2 = p.f2 → (runAt_ a c (l.drop (a + 1))).f3.toList = p.f3.toList → False := by
      intro p h0 hpp hx4 hp4 hf2 hf3
      refine hp p h0 hpp hp4 c hc ⟨fun h10 => ?_, hf2, hf3⟩
      simp [runAt_, h10] at hx4
    have hin := inner_ l hL (runs_ l) i hil hR (runAt_ a c (l.drop (a + 1))) hx2 hgo (1 + (if c.f0 = 10 then 0 else ext_ c.f1 c.f2 (l.drop (a + 1)))) a (by simp only [runAt_]; congr 1; omega) (by omega) hcell
    refine Ev.step (f := fun n => quillworklaw05_CellsWhole.j1 n l (runs_ l) (i : Int) false (runAt_ a c (l.drop (a + 1))).f0 (runAt_ a c (l.drop (a + 1))).f1 (runAt_ a c (l.drop (a + 1))).f2 (runAt_ a c (l.drop (a + 1))).f3 (runAt_ a c (l.drop (a + 1))).f4) (fun n => ?_)
      (Ev.step (f := fun n => quillworklaw05_CellsWhole.l1 n l (runs_ l) (i : Int) (a : Int) (runAt_ a c (l.drop (a + 1))).f0 (runAt_ a c (l.drop (a + 1))).f1 (runAt_ a c (l.drop (a + 1))).f2 (runAt_ a c (l.drop (a + 1))).f3 (runAt_ a c (l.drop (a + 1))).f4) (fun n => ?_) hin)
    · simp only [quillworklaw05_CellsWhole.l0]
      rw [if_pos (by omega), if_pos (by omega), rdR_some_ hx, if_pos (show (runAt_ a c (l.drop (a + 1))).f0 = (a : Int) from rfl), if_neg (by simp only [runAt_]; omega), if_neg (by simp only [runAt_]; omega)]
      by_cases h10 : c.f0 = 10
      · rw [if_pos (by simp [runAt_, h10])]
        congr 1
        have : (runAt_ a c (l.drop (a + 1))).f1 = wrap64 ((runAt_ a c (l.drop (a + 1))).f0 + 1) := by
          simp only [runAt_, if_pos h10]
          rw [w64_ _ (by omega)]
          omega
        rw [this]
        simp
      · rw [if_neg (by simp [runAt_, h10])]
    · simp only [quillworklaw05_CellsWhole.j1]
      rw [if_neg (by decide)]
      rfl
theorem CellsWhole (l : List S30) (hl : ∀ x ∈ l, CellOk_ x) (hL : l.length ≤ 9223372036854775807) : ∃ k, quillworklaw05_CellsWhole.f k l = some true := by
  refine Ev.rounds ?_
  obtain ⟨b, hb, hb2⟩ := long_ l hl hL
  unfold quillworklaw05_CellsWhole.f
  refine Ev.bind hb ?_
  cases b with
  | true => exact Ev.congr (fun k => if_pos rfl) (Ev.bind awake_ (Ev.now _))
  | false =>
    have h := hb2 rfl
    refine Ev.congr (fun k => if_neg (by decide)) ?_
    have e : cells_Runs.f l = some (runs_ l) := by unfold cells_Runs.f; rw [if_pos (by omega)]
    rw [e]
    exact Ev.bind (Ev.now _) (whole_ l h _ 0 0 rfl (Nat.zero_le _) (Nat.zero_le _) (by simp [runs_]) (fun p h0 => absurd h0 (by omega)))
end Go.Proofs.Ytgdpknmffohhaaa.Pure
