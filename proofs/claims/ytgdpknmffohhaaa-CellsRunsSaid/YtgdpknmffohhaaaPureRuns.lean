/- What the document's own answers for runs come to. -/
import Derived.Test.YtgdpknmffohhaaaM3
import Derived.Test.YtgdpknmffohhaaaM0
namespace Go.Proofs.Ytgdpknmffohhaaa.Pure
open Go.RowKit Go.Proofs.Ytgdpknmffohhaaa.Pr Go.Proofs.YtgdpknmffohhaaaW.PrintWords Go.Proofs.YtgdpknmffohhaaaW.PrintLast Go.Proofs.YtgdpknmffohhaaaW.PrintMore
theorem w64r_ (n : Int) (h : -9223372036854775808 ≤ n ∧ n ≤ 9223372036854775807) : wrap64 n = n := by unfold wrap64; omega
theorem rdr_ {l : List S30} {i : Nat} {c : S30} (h : l[i]? = some c) : rd_T30 l (i : Int) = c := by
  unfold rd_T30
  rw [List.getD_eq_getElem?_getD, Int.toNat_natCast, h]
  rfl
theorem extr_in_ (b : Int) (h : ByteArray) : ∀ (t : List S30) (j : Nat), j < ext_ b h t → ∃ c, t[j]? = some c ∧ c.f0 ≠ 10 ∧ c.f1 = b ∧ c.f2.toList = h.toList
  | [], j, hj => absurd hj (Nat.not_lt_zero _)
  | c :: t, j, hj => by
    simp only [ext_] at hj
    split at hj
    · rename_i hc
      cases j with
      | zero => exact ⟨c, rfl, hc⟩
      | succ j => exact extr_in_ b h t j (by omega)
    · exact absurd hj (Nat.not_lt_zero _)
theorem extr_out_ (b : Int) (h : ByteArray) : ∀ (t : List S30) (c : S30), t[ext_ b h t]? = some c → ¬ (c.f0 ≠ 10 ∧ c.f1 = b ∧ c.f2.toList = h.toList)
  | [], c, hc => by simp at hc
  | d :: t, c, hc => by
    simp only [ext_] at hc
    split at hc
    · exact extr_out_ b h t c (by simpa using hc)
    · rename_i hd
      simp at hc
      obtain rfl := hc
      exact hd
/-- how many cells come behind the first of its run -/
def more_ (c : S30) (t : List S30) : Nat := if c.f0 = 10 then 0 else ext_ c.f1 c.f2 t
theorem more_le_ (c : S30) (t : List S30) : more_ c t ≤ t.length := by
  unfold more_
  split
  · exact Nat.zero_le _
  · exact ext_le_ _ _ _
theorem step_more_ (l : List S30) (k : Nat) (c : S30) (hc : l[k]? = some c) : runsFrom_ (l.length - k) k (l.drop k) = (⟨(k : Int), ((k + 1 + more_ c (l.drop (k + 1)) : Nat) : Int), c.f1, c.f2, if c.f0 = 10 then 1 else 0⟩ : S28) :: runsFrom_ (l.length - (k + 1 + more_ c (l.drop (k + 1)))) (k + 1 + more_ c (l.drop (k + 1))) (l.drop (k + 1 + more_ c (l.drop (k + 1)))) := runsFrom_step_ l k c hc
theorem last_rd_ (d : List S28) (x : S28) : rd_T28 (d ++ [x]) (d.length : Int) = x := by
  unfold rd_T28
  rw [List.getD_eq_getElem?_getD, Int.toNat_natCast]
  simp
theorem alike_ (l : List S30) (a i : Nat) (c p x : S30) (hc : l[a]? = some c) (hai : a < i) (hi : i ≤ a + 1 + more_ c (l.drop (a + 1))) (hp : l[i - 1]? = some p) (hx : l[i]? = some x) :
    quillworkref05_alike.f p.f0 p.f1 p.f2 x.f0 x.f1 x.f2 = some (decide (i < a + 1 + more_ c (l.drop (a + 1)))) := by
  unfold quillworkref05_alike.f
  by_cases h10 : c.f0 = 10
  · have hN : more_ c (l.drop (a + 1)) = 0 := by unfold more_; rw [if_pos h10]
    have : i - 1 = a := by omega
    rw [this, hc] at hp
    cases hp
    rw [if_pos h10, hN, decide_eq_false (by omega)]
  · have hN : more_ c (l.drop (a + 1)) = ext_ c.f1 c.f2 (l.drop (a + 1)) := by unfold more_; rw [if_neg h10]
    rw [hN] at hi ⊢
    have hpc : p.f0 ≠ 10 ∧ p.f1 = c.f1 ∧ p.f2.toList = c.f2.toList := by
      by_cases h : i - 1 = a
      · rw [h, hc] at hp
        cases hp
        exact ⟨h10, rfl, rfl⟩
      · obtain ⟨d, e1, e2⟩ := extr_in_ c.f1 c.f2 (l.drop (a + 1)) (i - 1 - (a + 1)) (by omega)
        rw [List.getElem?_drop, show a + 1 + (i - 1 - (a + 1)) = i - 1 by omega, hp] at e1
        cases e1
        exact e2
    rw [if_neg hpc.1]
    by_cases h : i < a + 1 + ext_ c.f1 c.f2 (l.drop (a + 1))
    · obtain ⟨d, e1, e2, e3, e4⟩ := extr_in_ c.f1 c.f2 (l.drop (a + 1)) (i - (a + 1)) (by omega)
      rw [List.getElem?_drop, show a + 1 + (i - (a + 1)) = i by omega, hx] at e1
      cases e1
      rw [if_neg e2, if_pos (hpc.2.1.trans e3.symm), decide_eq_true h, hpc.2.2, e4, beq_self_eq_true]
    · have hie : i = a + 1 + ext_ c.f1 c.f2 (l.drop (a + 1)) := by omega
      have ho := extr_out_ c.f1 c.f2 (l.drop (a + 1)) x (by rw [List.getElem?_drop, ← hie]; exact hx)
      rw [decide_eq_false h]
      by_cases g1 : x.f0 = 10
      · rw [if_pos g1]
      · rw [if_neg g1]
        by_cases g2 : p.f1 = x.f1
        · rw [if_pos g2]
          have : ¬ p.f2.toList = x.f2.toList := fun e => ho ⟨g1, g2.symm.trans hpc.2.1, e.symm.trans hpc.2.2⟩
          rw [beq_eq_false_iff_ne.mpr this]
        · rw [if_neg g2]
theorem fresh_ (l : List S30) (hL : l.length ≤ 20000) (acc : List S28) (hacc : acc.length ≤ l.length) (i : Nat) (x : S30) (hx : l[i]? = some x) (r : List S28)
    (h : Ev (fun k => quillworkref05_Runs.l0 k l (acc ++ [(⟨(i : Int), ((i + 1 : Nat) : Int), x.f1, x.f2, if x.f0 = 10 then 1 else 0⟩ : S28)]) ((i + 1 : Nat) : Int)) r) :
    Ev (fun k => quillworkref05_Runs.j1 k l acc (i : Int) false) r := by
  have hi := (List.getElem?_eq_some_iff.1 hx).1
  have e3 : wrap64 ((i : Int) + 1) = ((i + 1 : Nat) : Int) := by rw [w64r_ _ (by omega)]; omega
  refine Ev.step (fun k => ?_) h
  simp only [quillworkref05_Runs.j1]
  rw [if_neg (by decide), if_pos (by omega), if_pos (by omega), rdr_ hx, e3]
  by_cases g : x.f0 = 10
  · rw [if_pos g, if_pos (by omega), if_pos g]
  · rw [if_neg g, if_pos (by omega), if_neg g]
theorem refruns_loop_ (l : List S30) (hL : l.length ≤ 20000) : ∀ (m i a : Nat) (c : S30) (d : List S28), l.length - i = m → i ≤ l.length → a < i → l[a]? = some c → i ≤ a + 1 + more_ c (l.drop (a + 1)) → d.length ≤ a → runs_ l = d ++ runsFrom_ (l.length - a) a (l.drop a) →
    Ev (fun k => quillworkref05_Runs.l0 k l (d ++ [(⟨(a : Int), (i : Int), c.f1, c.f2, if c.f0 = 10 then 1 else 0⟩ : S28)]) (i : Int)) (runs_ l) := by
  intro m
  induction m with
  | zero =>
    intro i a c d hm hi hai hc hin hd hr
    have hal := (List.getElem?_eq_some_iff.1 hc).1
    have hle := more_le_ c (l.drop (a + 1))
    rw [List.length_drop] at hle
    have hie : i = a + 1 + more_ c (l.drop (a + 1)) := by omega
    refine Ev.step (f := fun _ => some (runs_ l)) (fun k => ?_) (Ev.now _)
    simp only [quillworkref05_Runs.l0]
    rw [if_neg (by omega), hr, step_more_ l a c hc, ← hie, show l.length - i = 0 by omega]
    rfl
  | succ m ih =>
    intro i a c d hm hi hai hc hin hd hr
    have hal := (List.getElem?_eq_some_iff.1 hc).1
    have hx : l[i]? = some (l[i]'(by omega)) := List.getElem?_eq_getElem (by omega)
    have hp : l[i - 1]? = some (l[i - 1]'(by omega)) := List.getElem?_eq_getElem (by omega)
    generalize (l[i]'(by omega)) = x at hx
    generalize (l[i - 1]'(by omega)) = p at hp
    have hal2 := alike_ l a i c p x hc hai hin hp hx
    have e3 : wrap64 ((i : Int) + 1) = ((i + 1 : Nat) : Int) := by rw [w64r_ _ (by omega)]; omega
    have e4 : wrap64 ((i : Int) - 1) = ((i - 1 : Nat) : Int) := by rw [w64r_ _ (by omega)]; omega
    have hstep : ∀ k, quillworkref05_Runs.l0 (k + 1) l (d ++ [(⟨(a : Int), (i : Int), c.f1, c.f2, if c.f0 = 10 then 1 else 0⟩ : S28)]) (i : Int) = quillworkref05_Runs.j1 k l (d ++ [(⟨(a : Int), (i : Int), c.f1, c.f2, if c.f0 = 10 then 1 else 0⟩ : S28)]) (i : Int) (decide (i < a + 1 + more_ c (l.drop (a + 1)))) := by
      intro k
      simp only [quillworkref05_Runs.l0]
      rw [if_pos (by omega), if_pos (by omega), e4, if_pos (by omega), if_pos (by omega), if_pos (by omega), rdr_ hp, rdr_ hx, hal2]
      rfl
    refine Ev.step hstep ?_
    by_cases h : i < a + 1 + more_ c (l.drop (a + 1))
    · rw [decide_eq_true h]
      refine Ev.step (fun k => ?_) (ih (i + 1) a c d (by omega) (by omega) (by omega) hc (by omega) hd hr)
      have e5 : wrap64 (((d ++ [(⟨(a : Int), (i : Int), c.f1, c.f2, if c.f0 = 10 then 1 else 0⟩ : S28)]).length : Int) - 1) = (d.length : Int) := by rw [w64r_ _ (by simp; omega)]; simp
      simp only [quillworkref05_Runs.j1]
      rw [if_pos trivial, e5, if_pos (by omega), if_pos (by simp; omega), last_rd_, e3, Int.toNat_natCast]
      congr 1
      simp
    · rw [decide_eq_false h]
      have hie : i = a + 1 + more_ c (l.drop (a + 1)) := by omega
      have hr2 : runs_ l = (d ++ [(⟨(a : Int), (i : Int), c.f1, c.f2, if c.f0 = 10 then 1 else 0⟩ : S28)]) ++ runsFrom_ (l.length - i) i (l.drop i) := by
        rw [hr, step_more_ l a c hc, ← hie, List.append_assoc]
        rfl
      have hlen : (d ++ [(⟨(a : Int), (i : Int), c.f1, c.f2, if c.f0 = 10 then 1 else 0⟩ : S28)]).length ≤ i := by simp; omega
      exact fresh_ l hL _ (by omega) i x hx _ (ih (i + 1) i x _ (by omega) (by omega) (by omega) hx (by omega) hlen hr2)
theorem refruns_ (l : List S30) (hL : l.length ≤ 20000) : Ev (fun k => quillworkref05_Runs.f k l) (runs_ l) := by
  unfold quillworkref05_Runs.f
  by_cases h0 : l.length = 0
  · obtain rfl := List.eq_nil_of_length_eq_zero h0
    refine Ev.step (f := fun _ => some []) (fun k => ?_) (Ev.now _)
    simp only [quillworkref05_Runs.l0]
    rw [if_neg (by decide)]
  · have hx : l[0]? = some (l[0]'(by omega)) := List.getElem?_eq_getElem (by omega)
    generalize (l[0]'(by omega)) = x at hx
    refine Ev.step (f := fun k => quillworkref05_Runs.j1 k l [] ((0 : Nat) : Int) false) (fun k => ?_) (fresh_ l hL [] (Nat.zero_le _) 0 x hx _ ?_)
    · simp only [quillworkref05_Runs.l0]
      rw [if_pos (by omega), if_neg (by decide)]
      rfl
    · exact refruns_loop_ l hL _ 1 0 x [] rfl (by omega) (by omega) hx (by omega) (Nat.le_refl _) (by simp [runs_])
theorem place_ (l : List S30) (a : Int) : quillworkref05_Place.f l a = some (sidesAt_ a l.length) := by
  unfold quillworkref05_Place.f
  by_cases h : a < 0
  · rw [if_pos h, sidesAt_low _ h]
  · rw [if_neg h]
    by_cases h2 : a > (l.length : Int)
    · rw [if_pos h2, sidesAt_high h2]
    · rw [if_neg h2, sidesAt_mid (by omega) (by omega)]
theorem within_up_ (l : List S30) (hL : l.length ≤ 20000) (s : ByteArray) (f : Nat) : ∀ (m t : Nat), l.length - t = m → t ≤ l.length → Ev (fun k => quillworkref05_Within.l1 k l s (f : Int) (t : Int)) ((f : Int), ((forth_ s l (l.length - t) t : Nat) : Int)) := by
  intro m
  induction m with
  | zero =>
    intro t hm ht
    rw [hm]
    refine Ev.step (f := fun _ => some ((f : Int), (t : Int))) (fun k => ?_) (Ev.now _)
    simp only [quillworkref05_Within.l1]
    rw [if_neg (by omega)]
  | succ m ih =>
    intro t hm ht
    have e3 : wrap64 ((t : Int) + 1) = ((t + 1 : Nat) : Int) := by rw [w64r_ _ (by omega)]; omega
    by_cases e : (rd_T30 l (t : Int)).f2.toList = s.toList
    · have h := ih (t + 1) (by omega) (by omega)
      rw [forth_step_ (by omega) e] at h
      refine Ev.step (fun k => ?_) h
      simp only [quillworkref05_Within.l1]
      rw [if_pos (by omega), if_pos (by omega), if_pos e, e3]
    · rw [forth_stop_ (fun _ => e)]
      refine Ev.step (f := fun _ => some ((f : Int), (t : Int))) (fun k => ?_) (Ev.now _)
      simp only [quillworkref05_Within.l1]
      rw [if_pos (by omega), if_pos (by omega), if_neg e]
theorem within_down_ (l : List S30) (hL : l.length ≤ 20000) (s : ByteArray) (t : Nat) (ht : t ≤ l.length) : ∀ (f : Nat), f ≤ l.length → Ev (fun k => quillworkref05_Within.l0 k l s (f : Int) (t : Int)) (((back_ s l f : Nat) : Int), ((forth_ s l (l.length - t) t : Nat) : Int)) := by
  have hj : ∀ f : Nat, Ev (fun k => quillworkref05_Within.j3 k l s (f : Int) (t : Int)) ((f : Int), ((forth_ s l (l.length - t) t : Nat) : Int)) := fun f =>
    Ev.step (f := fun k => quillworkref05_Within.l1 k l s (f : Int) (t : Int)) (fun k => by simp only [quillworkref05_Within.j3]) (within_up_ l hL s f _ t rfl ht)
  intro f
  induction f with
  | zero =>
    intro hf
    refine Ev.step (fun k => ?_) (hj 0)
    simp only [quillworkref05_Within.l0]
    rw [if_neg (by decide)]
  | succ f ih =>
    intro hf
    have e4 : wrap64 (((f + 1 : Nat) : Int) - 1) = (f : Int) := by rw [w64r_ _ (by omega)]; omega
    simp only [back_]
    by_cases e : (rd_T30 l (f : Int)).f2.toList = s.toList
    · rw [if_pos e]
      refine Ev.step (fun k => ?_) (ih (by omega))
      simp only [quillworkref05_Within.l0]
      rw [if_pos (by omega), e4, if_pos (by omega), if_pos (by omega), if_pos e]
    · rw [if_neg e]
      refine Ev.step (fun k => ?_) (hj (f + 1))
      simp only [quillworkref05_Within.l0]
      rw [if_pos (by omega), e4, if_pos (by omega), if_pos (by omega), if_neg e]
theorem refwithin_ (l : List S30) (hL : l.length ≤ 20000) (a : Int) : ∃ r, cells_Within.f l a = some r ∧ Ev (fun k => quillworkref05_Within.f k l a) r := by
  refine ⟨_, rfl, ?_⟩
  have hp := sidesAt_le a l.length
  unfold quillworkref05_Within.f
  rw [place_]
  generalize sidesAt_ a l.length = q at hp
  obtain ⟨p, rfl⟩ : ∃ p : Nat, q = (p : Int) := ⟨q.toNat, by omega⟩
  rw [Int.toNat_natCast]
  have hj : Ev (fun k => quillworkref05_Within.j1 k l (p : Int) (href_ l p)) (within_ l p (href_ l p)) := by
    unfold within_
    by_cases hs : (href_ l p).toList = []
    · rw [if_pos hs]
      refine Ev.step (f := fun _ => some ((p : Int), (p : Int))) (fun k => ?_) (Ev.now _)
      simp only [quillworkref05_Within.j1]
      rw [if_pos hs]
    · rw [if_neg hs]
      refine Ev.step (fun k => ?_) (within_down_ l hL (href_ l p) p (by omega) p (by omega))
      simp only [quillworkref05_Within.j1]
      rw [if_neg hs]
  refine Ev.bind (Ev.now _) ?_
  have e4 : 0 < p → wrap64 ((p : Int) - 1) = ((p - 1 : Nat) : Int) := fun h => by rw [w64r_ _ (by omega)]; omega
  unfold href_ at hj ⊢
  by_cases g1 : 0 < p
  · rw [if_pos g1] at hj ⊢
    refine Ev.congr (fun k => by rw [if_pos (show (p : Int) > 0 by omega), e4 g1, if_pos (by omega), if_pos (by omega)]) (Ev.step (fun k => ?_) hj)
    simp only [quillworkref05_Within.j0, e4 g1]
    by_cases g2 : (rd_T30 l ((p - 1 : Nat) : Int)).f2.toList = []
    · rw [if_neg (by simp [g2]), if_pos g2]
      by_cases g3 : p < l.length
      · rw [if_pos (by omega), if_pos (by omega), if_pos g3]
      · rw [if_neg (by omega), if_neg g3]
    · rw [if_pos (by simp [g2]), if_pos (by omega), if_pos (by omega), if_neg g2]
  · rw [if_neg g1] at hj ⊢
    refine Ev.congr (fun k => by rw [if_neg (show ¬ (p : Int) > 0 by omega)]) (Ev.step (fun k => ?_) hj)
    simp only [quillworkref05_Within.j0]
    rw [if_neg (by decide)]
    by_cases g3 : p < l.length
    · rw [if_pos (by omega), if_pos (by omega), if_pos g3]
    · rw [if_neg (by omega), if_neg g3]
theorem refaround_ (l : List S30) (hL : l.length ≤ 20000) (a : Int) : ∃ r r', cells_Around.f l a = some r ∧ quillworkref05_Around.f l a = some r' ∧ r.1 = r'.1 ∧ r.2.toList = r'.2.toList := by
  have hp := sidesAt_le a l.length
  unfold quillworkref05_Around.f cells_Around.f
  rw [place_]
  generalize sidesAt_ a l.length = q at hp
  obtain ⟨p, rfl⟩ : ∃ p : Nat, q = (p : Int) := ⟨q.toNat, by omega⟩
  rw [Option.bind_some]
  by_cases g1 : (p : Int) > 0
  · have e4 : wrap64 ((p : Int) - 1) = (p : Int) - 1 := w64r_ _ (by omega)
    have g1' : 0 < (p : Int) := g1
    have h1 : 0 ≤ (p : Int) - 1 := by omega
    have h2 : (p : Int) - 1 < (l.length : Int) := by omega
    have h3 : 0 ≤ (p : Int) := by omega
    simp only [if_pos g1, e4, if_pos h1, if_pos h2, if_pos g1', if_pos h3]
    by_cases g2 : (p : Int) < (l.length : Int)
    · simp only [if_pos g2]
      by_cases g3 : (rd_T30 l ((p : Int) - 1)).f2.toList = (rd_T30 l (p : Int)).f2.toList
      · simp only [if_pos g3]
        exact ⟨_, _, rfl, rfl, rfl, g3⟩
      · simp only [if_neg g3]
        exact ⟨_, _, rfl, rfl, rfl, rfl⟩
    · simp only [if_neg g2]
      exact ⟨_, _, rfl, rfl, rfl, rfl⟩
  · have g1' : ¬ 0 < (p : Int) := g1
    have hp0 : p = 0 := by omega
    subst hp0
    simp only [if_neg g1, if_neg g1']
    by_cases g2 : (l.length : Int) > 0
    · have g2' : ((0 : Nat) : Int) < (l.length : Int) := g2
      have g2'' : (0 : Int) < (l.length : Int) := g2
      simp only [if_pos g2, if_pos g2', if_pos g2'']
      exact ⟨_, _, rfl, rfl, rfl, rfl⟩
    · have g2' : ¬ ((0 : Nat) : Int) < (l.length : Int) := g2
      simp only [if_neg g2, if_neg g2']
      exact ⟨_, _, rfl, rfl, rfl, rfl⟩
end Go.Proofs.Ytgdpknmffohhaaa.Pure
