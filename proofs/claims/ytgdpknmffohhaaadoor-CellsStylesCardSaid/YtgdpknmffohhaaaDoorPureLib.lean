/- What the plain laws of the seat share: the chapter's examples, and whether there are more cells than are gone through. -/
import Derived.Test.YtgdpknmffohhaaaDoorM2
import Derived.Test.YtgdpknmffohhaaaDoorM0
import Derived.Test.YtgdpknmffohhaaaDoorOpen
namespace Go.Proofs.YtgdpknmffohhaaaDoor.Pure
open Go.RowKit Go.Proofs.YtgdpknmffohhaaaDoor.Pr Go.Proofs.YtgdpknmffohhaaaDoorW.PrintWords Go.Proofs.YtgdpknmffohhaaaDoorW.PrintLast Go.Proofs.YtgdpknmffohhaaaDoorW.PrintMore
theorem w64_ (n : Int) (h : -9223372036854775808 ≤ n ∧ n ≤ 9223372036854775807) : wrap64 n = n := by unfold wrap64; omega
theorem rd_some_ {l : List S71} {i : Nat} {c : S71} (h : l[i]? = some c) : rd_T71 l (i : Int) = c := by
  unfold rd_T71
  rw [List.getD_eq_getElem?_getD, Int.toNat_natCast, h]
  rfl
theorem awake_ : Ev (fun k => quillworklaw05_awake.f k) true := Ev.of quillworklaw05_awake.mono (k := 30) (by kernel_rfl)
theorem long_loop_ (l : List S71) (hl : ∀ x ∈ l, CellOk_ x) (hL : l.length ≤ 9223372036854775807) : ∀ (m i : Nat) (n : Int), l.length - i = m → i ≤ l.length → 0 ≤ n → n ≤ 9223372036854775807 → ∃ b, Ev (fun k => quillworklaw05_long.l0 k l n (i : Int)) b ∧ (b = false → n ≤ 20000) := by
  intro m
  induction m with
  | zero =>
    intro i n hm hi h0 hn
    refine ⟨decide (n > 20000), Ev.step (f := fun _ => some (decide (n > 20000))) (fun k => ?_) (Ev.now _), fun h => by have := of_decide_eq_false h; omega⟩
    simp only [quillworklaw05_long.l0]
    rw [if_neg (by omega)]
  | succ m ih =>
    intro i n hm hi h0 hn
    by_cases hn2 : n ≤ 20000
    · have hi2 : i < l.length := by omega
      have hc : l[i]? = some l[i] := List.getElem?_eq_getElem hi2
      have hr := rd_some_ hc
      have hs := (hl l[i] (List.getElem_mem hi2)).2.2
      have e1 : wrap64 ((l[i].f2.size : Int) / 8) = (l[i].f2.size : Int) / 8 := w64_ _ (by omega)
      have e2 : wrap64 (n + (l[i].f2.size : Int) / 8) = n + (l[i].f2.size : Int) / 8 := w64_ _ (by omega)
      have e3 : wrap64 ((i : Int) + 1) = ((i + 1 : Nat) : Int) := by rw [w64_ _ (by omega)]; omega
      obtain ⟨b, hb, hb2⟩ := ih (i + 1) (n + (l[i].f2.size : Int) / 8) (by omega) (by omega) (by omega) (by omega)
      refine ⟨b, Ev.step (fun k => ?_) hb, fun _ => hn2⟩
      simp only [quillworklaw05_long.l0]
      rw [if_pos (by omega), if_pos hn2, if_pos (by omega), hr, e1, e2, e3]
    · refine ⟨true, Ev.step (f := fun _ => some true) (fun k => ?_) (Ev.now _), fun h => by cases h⟩
      simp only [quillworklaw05_long.l0]
      rw [if_pos (by omega), if_neg hn2]
      simp
      omega
theorem long_ (l : List S71) (hl : ∀ x ∈ l, CellOk_ x) (hL : l.length ≤ 9223372036854775807) : ∃ b, Ev (fun k => quillworklaw05_long.f k l) b ∧ (b = false → l.length ≤ 20000) := by
  obtain ⟨b, h, h2⟩ := long_loop_ l hl hL _ 0 l.length rfl (Nat.zero_le _) (by omega) (by omega)
  exact ⟨b, h, fun e => by have := h2 e; omega⟩
end Go.Proofs.YtgdpknmffohhaaaDoor.Pure
