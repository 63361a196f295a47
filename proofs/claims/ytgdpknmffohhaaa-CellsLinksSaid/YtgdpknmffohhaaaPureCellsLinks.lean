/- The plain law of CellsLinks: the cells of the link around a place have one href, are side by side, and as many as there are. -/
import Derived.Test.YtgdpknmffohhaaaPr28
import Derived.Test.YtgdpknmffohhaaaPureLib
namespace Go.Proofs.Ytgdpknmffohhaaa.Pure
open Go.RowKit Go.Proofs.Ytgdpknmffohhaaa.Pr Go.Proofs.YtgdpknmffohhaaaW.PrintWords Go.Proofs.YtgdpknmffohhaaaW.PrintLast Go.Proofs.YtgdpknmffohhaaaW.PrintMore
theorem back_le_ (s : ByteArray) (l : List S30) : ∀ n, back_ s l n ≤ n
  | 0 => Nat.le_refl _
  | n + 1 => by
    have := back_le_ s l n
    simp only [back_]
    split <;> omega
theorem back_in_ (s : ByteArray) (l : List S30) : ∀ n j, back_ s l n ≤ j → j < n → (rd_T30 l (j : Int)).f2.toList = s.toList
  | 0, j, _, h => absurd h (Nat.not_lt_zero _)
  | n + 1, j, h1, h2 => by
    simp only [back_] at h1
    split at h1
    · rename_i e
      by_cases hj : j = n
      · rw [hj]; exact e
      · exact back_in_ s l n j h1 (by omega)
    · omega
theorem back_out_ (s : ByteArray) (l : List S30) : ∀ n, 0 < back_ s l n → ¬ (rd_T30 l ((back_ s l n - 1 : Nat) : Int)).f2.toList = s.toList
  | 0, h => absurd h (Nat.not_lt_zero _)
  | n + 1, h => by
    simp only [back_] at h ⊢
    split
    · rename_i e
      rw [if_pos e] at h
      exact back_out_ s l n h
    · rename_i e
      exact e
theorem forth_le_ (s : ByteArray) (l : List S30) : ∀ k i, i ≤ forth_ s l k i ∧ forth_ s l k i ≤ i + k
  | 0, i => ⟨Nat.le_refl _, Nat.le_refl _⟩
  | k + 1, i => by
    have := forth_le_ s l k (i + 1)
    simp only [forth_]
    split <;> omega
theorem forth_in_ (s : ByteArray) (l : List S30) : ∀ k i j, i ≤ j → j < forth_ s l k i → (rd_T30 l (j : Int)).f2.toList = s.toList
  | 0, i, j, h1, h2 => by simp only [forth_] at h2; omega
  | k + 1, i, j, h1, h2 => by
    simp only [forth_] at h2
    split at h2
    · rename_i e
      by_cases hj : j = i
      · rw [hj]; exact e
      · exact forth_in_ s l k (i + 1) j (by omega) h2
    · omega
theorem forth_out_ (s : ByteArray) (l : List S30) : ∀ k i, forth_ s l k i < i + k → ¬ (rd_T30 l ((forth_ s l k i : Nat) : Int)).f2.toList = s.toList
  | 0, i, h => by simp only [forth_] at h; omega
  | k + 1, i, h => by
    simp only [forth_] at h ⊢
    split
    · rename_i e
      rw [if_pos e] at h
      exact forth_out_ s l k (i + 1) (by omega)
    · rename_i e
      exact e
theorem links_loop_ (l : List S30) (hL : l.length ≤ 20000) (s : ByteArray) (F T : Nat) (hT : T ≤ l.length) (hs : ¬ s.toList = []) (x : ByteArray) (hx : x.toList = s.toList)
    (hin : ∀ j, F ≤ j → j < T → (rd_T30 l (j : Int)).f2.toList = s.toList) (hF : 0 < F → ¬ (rd_T30 l ((F - 1 : Nat) : Int)).f2.toList = s.toList) (hO : T < l.length → ¬ (rd_T30 l (T : Int)).f2.toList = s.toList) (hFT : F ≤ T) :
    ∀ (m j : Nat), T - j = m → F ≤ j → j ≤ T → Ev (fun k => quillworklaw05_CellsLinks.l0 k l (F : Int) (T : Int) true x (j : Int)) true := by
  intro m
  have haw := Ev.bind awake_ (Ev.now (true : Bool))
  induction m with
  | zero =>
    intro j h1 h2 h3
    refine Ev.step (f := fun k => (quillworklaw05_awake.f k).bind fun t => some t) (fun k => ?_) haw
    have e4 : 0 < F → wrap64 ((F : Int) - 1) = ((F - 1 : Nat) : Int) := fun h => by rw [w64_ _ (by omega)]; omega
    simp only [quillworklaw05_CellsLinks.l0, hx]
    rw [if_neg (by omega), if_pos trivial, if_neg hs]
    by_cases g1 : (F : Int) = 0
    · rw [if_pos g1]
      by_cases g2 : (T : Int) = (l.length : Int)
      · rw [if_pos g2]
      · rw [if_neg g2, if_pos (by omega), if_pos (by omega), if_neg (hO (by omega))]
    · rw [if_neg g1, e4 (by omega), if_pos (by omega), if_pos (by omega), if_neg (hF (by omega))]
      by_cases g2 : (T : Int) = (l.length : Int)
      · rw [if_pos g2]
      · rw [if_neg g2, if_pos (by omega), if_pos (by omega), if_neg (hO (by omega))]
  | succ m ih =>
    intro j h1 h2 h3
    refine Ev.step (fun k => ?_) (ih (j + 1) (by omega) (by omega) (by omega))
    have e3 : wrap64 ((j : Int) + 1) = ((j + 1 : Nat) : Int) := by rw [w64_ _ (by omega)]; omega
    simp only [quillworklaw05_CellsLinks.l0]
    rw [if_pos (by omega), if_pos (by omega), if_pos (by omega), if_pos ((hin j h2 (by omega)).trans hx.symm), e3]
theorem beside_ (l : List S30) (p : Nat) (hp : p ≤ l.length) (hL : l.length ≤ 20000) (F T : Int) (h : Ev (fun k => quillworklaw05_CellsLinks.j1 k l F T (p : Int) ((href_ l p).toList != [])) true) :
    Ev (fun k => quillworklaw05_CellsLinks.j0 k l F T (p : Int) false) true := by
  refine Ev.step (fun k => ?_) h
  simp only [quillworklaw05_CellsLinks.j0, href_]
  rw [if_neg (by decide)]
  have e0 : ((⟨#[]⟩ : ByteArray).toList != ([] : List UInt8)) = false := by kernel_rfl
  by_cases g1 : 0 < p
  · have e4 : wrap64 ((p : Int) - 1) = ((p - 1 : Nat) : Int) := by rw [w64_ _ (by omega)]; omega
    rw [if_pos (show (p : Int) > 0 by omega), e4, if_pos (by omega), if_pos (by omega), if_pos g1]
    by_cases g2 : (rd_T30 l ((p - 1 : Nat) : Int)).f2.toList = []
    · rw [if_pos g2, if_pos g2]
      by_cases g3 : p < l.length
      · rw [if_pos (by omega), if_pos (by omega), if_pos g3]
      · rw [if_neg (by omega), if_neg g3, e0]
    · rw [if_neg g2, if_neg g2]
      congr 1
      simp [g2]
  · rw [if_neg (show ¬ (p : Int) > 0 by omega), if_neg g1]
    by_cases g3 : p < l.length
    · rw [if_pos (by omega), if_pos (by omega), if_pos g3]
    · rw [if_neg (by omega), if_neg g3, e0]
theorem href_at_ (l : List S30) (p : Nat) (h : ¬ (href_ l p).toList = []) : (0 < p ∧ (rd_T30 l ((p - 1 : Nat) : Int)).f2.toList = (href_ l p).toList) ∨ (p < l.length ∧ (rd_T30 l (p : Int)).f2.toList = (href_ l p).toList) := by
  have e0 : (⟨#[]⟩ : ByteArray).toList = ([] : List UInt8) := by kernel_rfl
  unfold href_ at h ⊢
  by_cases g1 : 0 < p
  · rw [if_pos g1] at h ⊢
    by_cases g2 : (rd_T30 l ((p - 1 : Nat) : Int)).f2.toList = []
    · rw [if_pos g2] at h ⊢
      by_cases g3 : p < l.length
      · rw [if_pos g3]; exact .inr ⟨g3, rfl⟩
      · rw [if_neg g3] at h; exact absurd e0 h
    · rw [if_neg g2]; exact .inl ⟨g1, rfl⟩
  · rw [if_neg g1] at h ⊢
    by_cases g3 : p < l.length
    · rw [if_pos g3]; exact .inr ⟨g3, rfl⟩
    · rw [if_neg g3] at h; exact absurd e0 h
theorem links_ (l : List S30) (p : Nat) (hp : p ≤ l.length) (hL : l.length ≤ 20000) :
    0 ≤ (within_ l p (href_ l p)).1 ∧ (within_ l p (href_ l p)).1 ≤ (p : Int) ∧ (p : Int) ≤ (within_ l p (href_ l p)).2 ∧ (within_ l p (href_ l p)).2 ≤ (l.length : Int) ∧
      Ev (fun k => quillworklaw05_CellsLinks.j0 k l (within_ l p (href_ l p)).1 (within_ l p (href_ l p)).2 (p : Int) false) true := by
  by_cases hs : (href_ l p).toList = []
  · have e : within_ l p (href_ l p) = ((p : Int), (p : Int)) := by unfold within_; rw [if_pos hs]
    rw [e]
    refine ⟨by omega, Int.le_refl _, Int.le_refl _, by show (p : Int) ≤ _; omega, beside_ l p hp hL _ _ ?_⟩
    refine Ev.step (f := fun k => (quillworklaw05_awake.f k).bind fun t => some t) (fun k => ?_) (Ev.bind awake_ (Ev.now _))
    simp only [quillworklaw05_CellsLinks.j1, hs]
    rw [if_pos trivial, if_neg (by decide), if_pos trivial]
  · have e : within_ l p (href_ l p) = (((back_ (href_ l p) l p : Nat) : Int), ((forth_ (href_ l p) l (l.length - p) p : Nat) : Int)) := by unfold within_; rw [if_neg hs]
    rw [e]
    have b1 := back_le_ (href_ l p) l p
    have b2 := back_in_ (href_ l p) l p
    have b3 := back_out_ (href_ l p) l p
    have f1 := forth_le_ (href_ l p) l (l.length - p) p
    have f2 := forth_in_ (href_ l p) l (l.length - p) p
    have f3 := forth_out_ (href_ l p) l (l.length - p) p
    have hat := href_at_ l p hs
    have hbs : ((href_ l p).toList != []) = true := by simp [hs]
    generalize hF : back_ (href_ l p) l p = F at *
    generalize hT : forth_ (href_ l p) l (l.length - p) p = T at *
    have hin : ∀ j, F ≤ j → j < T → (rd_T30 l (j : Int)).f2.toList = (href_ l p).toList := fun j g1 g2 => by
      by_cases h : j < p
      · exact b2 j g1 h
      · exact f2 j (by omega) g2
    have hlt : F < T := by
      rcases hat with ⟨h0, h⟩ | ⟨h0, h⟩
      · have : F ≠ p := fun hc => b3 (by omega) (by rw [hc]; exact h)
        omega
      · have : T ≠ p := fun hc => f3 (by omega) (by rw [hc]; exact h)
        omega
    refine ⟨by omega, by show (F : Int) ≤ _; omega, by show (p : Int) ≤ (T : Int); omega, by show (T : Int) ≤ _; omega, beside_ l p hp hL _ _ ?_⟩
    rw [hbs]
    refine Ev.step (f := fun k => quillworklaw05_CellsLinks.l0 k l (F : Int) (T : Int) true ((rd_T30 l (F : Int)).f2) (F : Int)) (fun k => ?_)
      (links_loop_ l hL (href_ l p) F T (by omega) hs _ (hin F (Nat.le_refl _) hlt) hin (fun h => b3 h) (fun h => f3 (by omega)) (by omega) _ F rfl (Nat.le_refl _) (by omega))
    simp only [quillworklaw05_CellsLinks.j1]
    rw [if_neg (by omega), if_pos (by omega), if_pos (by omega)]
theorem CellsLinks (l : List S30) (a : Int) (hl : ∀ x ∈ l, CellOk_ x) (hL : l.length ≤ 9223372036854775807) (_ : (Lit.int .i64 a).wf = true) : ∃ k, quillworklaw05_CellsLinks.f k l a = some true := by
  refine Ev.rounds ?_
  obtain ⟨b, hb, hb2⟩ := long_ l hl hL
  unfold quillworklaw05_CellsLinks.f
  refine Ev.bind hb ?_
  cases b with
  | true => exact Ev.congr (fun k => if_pos rfl) (Ev.bind awake_ (Ev.now _))
  | false =>
    have h := hb2 rfl
    refine Ev.congr (fun k => if_neg (by decide)) ?_
    have hs : sidesAt_ a l.length = mn (mx a 0) (l.length : Int) := by
      unfold sidesAt_ mn mx
      split <;> split <;> (try split) <;> omega
    have hp : 0 ≤ mn (mx a 0) (l.length : Int) ∧ mn (mx a 0) (l.length : Int) ≤ (l.length : Int) := by rw [← hs]; exact sidesAt_le a l.length
    unfold cells_Within.f
    rw [hs]
    generalize mn (mx a 0) (l.length : Int) = q at hp
    obtain ⟨p, rfl⟩ : ∃ p : Nat, q = (p : Int) := ⟨q.toNat, by omega⟩
    rw [Int.toNat_natCast]
    obtain ⟨g1, g2, g3, g4, g5⟩ := links_ l p (by omega) h
    refine Ev.bind (Ev.now _) ?_
    refine Ev.congr (fun k => ?_) g5
    rw [if_neg (by omega), if_neg (by omega), if_neg (by omega), decide_eq_false (by omega)]
end Go.Proofs.Ytgdpknmffohhaaa.Pure
