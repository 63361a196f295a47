/- The plain law of CellsRuns: the runs of a row, what is typed and what is linked around a place, are the document's. -/
import Derived.Test.YtgdpknmffohhaaaM4
import Derived.Test.YtgdpknmffohhaaaPureLib
import Derived.Test.YtgdpknmffohhaaaPureRuns
namespace Go.Proofs.Ytgdpknmffohhaaa.Pure
open Go.RowKit Go.Proofs.Ytgdpknmffohhaaa.Pr Go.Proofs.YtgdpknmffohhaaaW.PrintWords Go.Proofs.YtgdpknmffohhaaaW.PrintLast Go.Proofs.YtgdpknmffohhaaaW.PrintMore
theorem runsR_len_ : ∀ (k i : Nat) (l : List S30), (runsFrom_ k i l).length ≤ k
  | 0, _, _ => Nat.le_refl _
  | _ + 1, _, [] => Nat.zero_le _
  | k + 1, i, c :: t => by simpa [runsFrom_] using runsR_len_ k _ _
theorem runs_loop_ (l : List S30) (a : Int) (hL : l.length ≤ 20000) (rs : List S28) (hR : rs.length ≤ 20000) : ∀ (m i : Nat), rs.length - i = m → i ≤ rs.length → Ev (fun k => quillworklaw05_CellsRuns.l0 k l a rs rs (i : Int)) true := by
  intro m
  induction m with
  | zero =>
    intro i hm hi
    obtain ⟨r, r', h1, h2, h3, h4⟩ := refaround_ l hL a
    obtain ⟨q, h5, h6⟩ := refwithin_ l hL a
    refine Ev.step (f := fun k => (quillworkref05_Within.f k l a).bind fun bt => if r.1 = r'.1 then (if r.2.toList = r'.2.toList then (if q.1 = bt.1 then (if q.2 = bt.2 then ((quillworklaw05_awake.f k).bind fun t => some t) else some false) else some false) else some false) else some false) (fun k => ?_)
      (Ev.bind h6 (Ev.congr (fun k => by rw [if_pos h3, if_pos h4, if_pos rfl, if_pos rfl]) (Ev.bind awake_ (Ev.now _))))
    simp only [quillworklaw05_CellsRuns.l0, h1, h2, h5, Option.bind_some]
    rw [if_neg (by omega)]
  | succ m ih =>
    intro i hm hi
    refine Ev.step (fun k => ?_) (ih (i + 1) (by omega) (by omega))
    have e3 : wrap64 ((i : Int) + 1) = ((i + 1 : Nat) : Int) := by rw [w64_ _ (by omega)]; omega
    simp only [quillworklaw05_CellsRuns.l0]
    rw [if_pos (by omega), if_pos (by omega), if_pos (by omega), if_neg (by simp), e3]
theorem CellsRuns (l : List S30) (a : Int) (hl : ∀ x ∈ l, CellOk_ x) (hL : l.length ≤ 9223372036854775807) (_ : (Lit.int .i64 a).wf = true) : ∃ k, quillworklaw05_CellsRuns.f k l a = some true := by
  refine Ev.rounds ?_
  obtain ⟨b, hb, hb2⟩ := long_ l hl hL
  unfold quillworklaw05_CellsRuns.f
  refine Ev.bind hb ?_
  cases b with
  | true => exact Ev.congr (fun k => if_pos rfl) (Ev.bind awake_ (Ev.now _))
  | false =>
    have h := hb2 rfl
    refine Ev.congr (fun k => if_neg (by decide)) ?_
    have e : cells_Runs.f l = some (runs_ l) := by unfold cells_Runs.f; rw [if_pos (by omega)]
    rw [e]
    refine Ev.bind (Ev.now _) (Ev.bind (refruns_ l h) (Ev.congr (fun k => if_pos rfl) ?_))
    exact runs_loop_ l a h (runs_ l) (Nat.le_trans (runsR_len_ _ _ _) h) _ 0 rfl (Nat.zero_le _)
end Go.Proofs.Ytgdpknmffohhaaa.Pure
