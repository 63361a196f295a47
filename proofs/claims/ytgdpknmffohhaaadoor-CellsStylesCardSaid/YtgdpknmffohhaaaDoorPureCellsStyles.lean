/- The plain law of CellsStyles: Set changes bits alone, of those cells alone; what was set all have, what was cleared none; Set twice is Set. -/
import Derived.Test.YtgdpknmffohhaaaDoorM4
import Derived.Test.YtgdpknmffohhaaaDoorPureLib
import Derived.Test.YtgdpknmffohhaaaDoorPureBits
namespace Go.Proofs.YtgdpknmffohhaaaDoor.Pure
open Go.RowKit Go.Proofs.YtgdpknmffohhaaaDoor.Pr Go.Proofs.YtgdpknmffohhaaaDoorW.PrintWords Go.Proofs.YtgdpknmffohhaaaDoorW.PrintLast Go.Proofs.YtgdpknmffohhaaaDoorW.PrintMore
theorem sameS_loop_ (l : List S71) (hL : l.length ≤ 1000000000) : ∀ (m i : Nat), l.length - i = m → i ≤ l.length → Ev (fun k => slices_Equal_Cell.l0 k l l (l.length : Int) (i : Int)) true := by
  intro m
  induction m with
  | zero =>
    intro i hm hi
    refine Ev.step (f := fun _ => some true) (fun k => ?_) (Ev.now _)
    simp only [slices_Equal_Cell.l0]
    rw [if_neg (by omega)]
  | succ m ih =>
    intro i hm hi
    refine Ev.step (fun k => ?_) (ih (i + 1) (by omega) (by omega))
    have e3 : wrap64 ((i : Int) + 1) = ((i + 1 : Nat) : Int) := by rw [w64_ _ (by omega)]; omega
    simp only [slices_Equal_Cell.l0]
    rw [if_pos (by omega), if_pos (by omega), if_pos (by omega), if_pos (by omega), if_neg (by simp), e3]
theorem sameS_ (l : List S71) (hL : l.length ≤ 1000000000) : Ev (fun k => cells_Same.f k l l) true := by
  unfold cells_Same.f
  refine Ev.bind ?_ (Ev.now _)
  unfold slices_Equal_Cell.f
  exact Ev.congr (fun k => if_pos rfl) (sameS_loop_ l hL _ 0 rfl (Nat.zero_le _))
theorem long_n_ (l : List S71) : ∀ (k : Nat) (n i : Int), quillworklaw05_long.l0 k l n i = some false → n ≤ 20000
  | 0, n, i, h => by simp [quillworklaw05_long.l0] at h
  | k + 1, n, i, h => by
    simp only [quillworklaw05_long.l0] at h
    by_cases hn : n ≤ 20000
    · exact hn
    · exfalso
      have hd : decide (n > 20000) = true := decide_eq_true (by omega)
      simp only [if_neg hn, ite_self, hd] at h
      simp at h
theorem long_small_ (l : List S71) (hl : ∀ x ∈ l, CellOk_ x) (hL : l.length ≤ 9223372036854775807) : ∀ (k i : Nat) (n : Int), 0 ≤ n → quillworklaw05_long.l0 k l n (i : Int) = some false → ∀ j x, i ≤ j → l[j]? = some x → x.f2.size ≤ 160007
  | 0, i, n, _, h => by simp [quillworklaw05_long.l0] at h
  | k + 1, i, n, h0, h => by
    intro j x hij hx
    have hj := (List.getElem?_eq_some_iff.1 hx).1
    have hn := long_n_ l (k + 1) n i h
    simp only [quillworklaw05_long.l0] at h
    have hi2 : i < l.length := by omega
    have hc : l[i]? = some l[i] := List.getElem?_eq_getElem hi2
    have hr := rd_some_ hc
    have hs := (hl l[i] (List.getElem_mem hi2)).2.2
    have e1 : wrap64 ((l[i].f2.size : Int) / 8) = (l[i].f2.size : Int) / 8 := w64_ _ (by omega)
    have e2 : wrap64 (n + (l[i].f2.size : Int) / 8) = n + (l[i].f2.size : Int) / 8 := w64_ _ (by omega)
    have e3 : wrap64 ((i : Int) + 1) = ((i + 1 : Nat) : Int) := by rw [w64_ _ (by omega)]; omega
    rw [if_pos (by omega), if_pos hn, if_pos (by omega), hr, e1, e2, e3] at h
    by_cases hji : j = i
    · subst hji
      rw [hc] at hx
      cases hx
      have := long_n_ l k _ _ h
      omega
    · exact long_small_ l hl hL k (i + 1) _ (by omega) h j x (by omega) hx
theorem upon_get_ {α : Type} (f : α → α) (l : List α) (p q : Nat) (h1 : p ≤ q) (h2 : q ≤ l.length) (j : Nat) : (upon_ f l p q)[j]? = if p ≤ j ∧ j < q then (l[j]?).map f else l[j]? := by
  unfold upon_
  have e1 : (l.take p).length = p := by rw [List.length_take]; omega
  have e2 : (((l.take q).drop p).map f).length = q - p := by rw [List.length_map, List.length_drop, List.length_take]; omega
  have e3 : (l.take p ++ ((l.take q).drop p).map f).length = q := by rw [List.length_append, e1, e2]; omega
  by_cases hq : j < q
  · rw [List.getElem?_append_left (by omega)]
    by_cases hp : p ≤ j
    · rw [List.getElem?_append_right (by omega), e1, if_pos ⟨hp, hq⟩, List.getElem?_map, List.getElem?_drop, show p + (j - p) = j by omega, List.getElem?_take_of_lt hq]
    · rw [List.getElem?_append_left (by omega), if_neg (by omega), List.getElem?_take_of_lt (by omega)]
  · rw [List.getElem?_append_right (by omega), e3, if_neg (by omega), List.getElem?_drop, show q + (j - q) = j by omega]
theorem upon_len_ {α : Type} (f : α → α) (l : List α) (p q : Nat) (h1 : p ≤ q) (h2 : q ≤ l.length) : (upon_ f l p q).length = l.length := by
  unfold upon_
  rw [List.length_append, List.length_append, List.length_map, List.length_drop, List.length_take, List.length_take, List.length_drop]
  omega
theorem upon_mid_ {α : Type} (f : α → α) (l : List α) (p q : Nat) (h1 : p ≤ q) (h2 : q ≤ l.length) : ((upon_ f l p q).take q).drop p = ((l.take q).drop p).map f := by
  have e1 : (l.take p).length = p := by rw [List.length_take]; omega
  have e2 : (((l.take q).drop p).map f).length = q - p := by rw [List.length_map, List.length_drop, List.length_take]; omega
  have e3 : (l.take p ++ ((l.take q).drop p).map f).length = q := by rw [List.length_append, e1, e2]; omega
  unfold upon_
  rw [List.take_append_of_le_length (by omega), List.take_of_length_le (by omega)]
  conv => lhs; arg 1; rw [← e1]
  rw [List.drop_left]
theorem may_kept_ (s c : Int) (l : List S71) (p q : Nat) (h1 : p ≤ q) (h2 : q ≤ l.length) (hb : l.any bad_ = false) : (upon_ (over_ s c) l p q).any bad_ = false := by
  rw [List.any_eq_false] at hb ⊢
  have hof : ∀ x : S71, bad_ x ≠ true → bad_ (over_ s c x) ≠ true := by
    intro x hx
    replace hx : bad_ x = false := by simpa using hx
    refine fun hc => absurd hc ?_
    rw [Bool.not_eq_true]
    unfold bad_ at hx ⊢
    simp only [Bool.or_eq_false_iff, decide_eq_false_iff_not] at hx ⊢
    have := over_low_ s c x (by omega) (by omega)
    exact ⟨hx.1, by omega, by omega, hx.2.2.2⟩
  intro x hx
  obtain ⟨j, hj, rfl⟩ := List.getElem_of_mem hx
  have hg := upon_get_ (over_ s c) l p q h1 h2 j
  rw [List.getElem?_eq_getElem hj] at hg
  have hjl : j < l.length := by rw [upon_len_ _ _ _ _ h1 h2] at hj; exact hj
  rw [List.getElem?_eq_getElem hjl] at hg
  split at hg
  · rw [Option.map_some] at hg
    rw [Option.some.inj hg]
    exact hof _ (hb _ (List.getElem_mem hjl))
  · rw [Option.some.inj hg]
    exact hb _ (List.getElem_mem hjl)
theorem tail_ (l : List S71) (hL : l.length ≤ 20000) (hz : ∀ x ∈ l, x.f2.size < 4294967281) (p q : Nat) (s c : Int) (h1 : p ≤ q) (h2 : q ≤ l.length) : ∀ (m j : Nat), l.length - j = m → j ≤ l.length →
    Ev (fun k => quillworklaw05_CellsStyles.l0 k l (p : Int) (q : Int) s c (upon_ (over_ s c) l p q) (j : Int)) true := by
  have hlen := upon_len_ (over_ s c) l p q h1 h2
  have haw := Ev.bind awake_ (Ev.now (true : Bool))
  intro m
  induction m with
  | zero =>
    intro j hm hj
    have hS : cells_Set.f (upon_ (over_ s c) l p q) (p : Int) (q : Int) s c = some (upon_ (over_ s c) l p q, 0) := by
      unfold cells_Set.f
      rw [if_pos (by unfold spanned_; omega), if_pos (by omega), Int.toNat_natCast, Int.toNat_natCast]
      congr 2
      refine List.ext_getElem? fun i => ?_
      rw [upon_get_ _ _ _ _ h1 (by omega), upon_get_ _ _ _ _ h1 h2]
      split
      · cases l[i]? with
        | none => rfl
        | some x => simp [over_twice_]
      · rfl
    have hsp : spanned_ (upon_ (over_ s c) l p q) (p : Int) (q : Int) := by unfold spanned_; omega
    have hSo : cells_Some.f (upon_ (over_ s c) l p q) (p : Int) (q : Int) (Go.bits .andNot .i64 (Go.bits .and .i64 c 15) s) = some false := by
      unfold cells_Some.f
      rw [if_pos hsp, Int.toNat_natCast, Int.toNat_natCast, upon_mid_ _ _ _ _ h1 h2]
      congr 1
      rw [List.any_eq_false]
      intro x hx
      obtain ⟨y, _, rfl⟩ := List.mem_map.1 hx
      rw [over_none_]
      decide
    have hAl : p ≠ q → cells_All.f (upon_ (over_ s c) l p q) (p : Int) (q : Int) (Go.bits .and .i64 s 15) = some true := by
      intro hpq
      unfold cells_All.f
      rw [if_pos hsp, if_neg (by omega), Int.toNat_natCast, Int.toNat_natCast, upon_mid_ _ _ _ _ h1 h2]
      congr 1
      rw [Bool.not_eq_true', List.any_eq_false]
      intro x hx
      obtain ⟨y, _, rfl⟩ := List.mem_map.1 hx
      rw [over_all_]
      simp
    have hz2 : ∀ x ∈ upon_ (over_ s c) l p q, x.f2.size < 4294967281 := by
      intro x hx
      obtain ⟨i, hi, rfl⟩ := List.getElem_of_mem hx
      have hg := upon_get_ (over_ s c) l p q h1 h2 i
      have hil : i < l.length := by omega
      rw [List.getElem?_eq_getElem hi, List.getElem?_eq_getElem hil] at hg
      split at hg
      · rw [Option.map_some] at hg
        rw [Option.some.inj hg]
        exact hz l[i] (List.getElem_mem hil)
      · rw [Option.some.inj hg]
        exact hz _ (List.getElem_mem hil)
    have hM1 : cells_May.f l = some (!(l.any bad_)) := by
      unfold cells_May.f
      rw [if_pos (List.all_eq_true.2 fun x hx => decide_eq_true (hz x hx))]
    have hM2 : cells_May.f (upon_ (over_ s c) l p q) = some (!((upon_ (over_ s c) l p q).any bad_)) := by
      unfold cells_May.f
      rw [if_pos (List.all_eq_true.2 fun x hx => decide_eq_true (hz2 x hx))]
    refine Ev.step (f := fun k => (cells_Same.f k (upon_ (over_ s c) l p q) (upon_ (over_ s c) l p q)).bind fun t => if t = true then ((quillworklaw05_awake.f k).bind fun t => some t) else some false) (fun k => ?_) (Ev.bind (sameS_ _ (by omega)) (Ev.congr (fun k => if_pos rfl) haw))
    simp only [quillworklaw05_CellsStyles.l0]
    rw [if_neg (by omega), hS, Option.bind_some, if_pos rfl]
    congr 1
    funext t
    congr 1
    have hmay : (if (!(l.any bad_)) = true then ((some (!((upon_ (over_ s c) l p q).any bad_))).bind fun t178 => (if t178 = true then ((quillworklaw05_awake.f k).bind fun t179 => (some t179)) else (some false))) else ((quillworklaw05_awake.f k).bind fun t180 => (some t180))) = ((quillworklaw05_awake.f k).bind fun t => some t) := by
      cases hb : l.any bad_ with
      | true => rfl
      | false =>
        rw [may_kept_ s c l p q h1 h2 hb]
        rfl
    by_cases hpq : (p : Int) = (q : Int)
    · rw [if_pos hpq, hSo, Option.bind_some, if_neg (by decide), hM1, hM2, Option.bind_some]
      exact hmay
    · rw [if_neg hpq, hAl (by omega), Option.bind_some, if_pos rfl, hSo, Option.bind_some, if_neg (by decide), hM1, hM2, Option.bind_some]
      exact hmay
  | succ m ih =>
    intro j hm hj
    have hjl : j < l.length := by omega
    have hc : l[j]? = some l[j] := List.getElem?_eq_getElem hjl
    have hg := upon_get_ (over_ s c) l p q h1 h2 j
    rw [hc] at hg
    have e3 : wrap64 ((j : Int) + 1) = ((j + 1 : Nat) : Int) := by rw [w64_ _ (by omega)]; omega
    refine Ev.step (fun k => ?_) (ih (j + 1) (by omega) (by omega))
    simp only [quillworklaw05_CellsStyles.l0]
    rw [if_pos (by omega), rd_some_ hc, e3]
    by_cases hp : p ≤ j
    · rw [if_pos (by omega), if_pos (by omega), if_pos (by omega)]
      by_cases hq : j < q
      · rw [if_pos ⟨hp, hq⟩, Option.map_some] at hg
        rw [rd_some_ hg, if_pos (show (over_ s c l[j]).f0 = l[j].f0 from rfl), if_pos (show (over_ s c l[j]).f2.toList = l[j].f2.toList from rfl), if_pos (by omega)]
      · rw [if_neg (by omega)] at hg
        rw [rd_some_ hg, if_pos rfl, if_pos rfl, if_neg (by omega), if_pos rfl]
    · rw [if_neg (by omega)] at hg
      rw [if_neg (by omega), if_pos (by omega), if_pos (by omega), rd_some_ hg, if_pos rfl, if_pos rfl, if_pos rfl]
theorem CellsStyles (l : List S71) (a b s c : Int) (hl : ∀ x ∈ l, CellOk_ x) (hL : l.length ≤ 9223372036854775807) (_ : (Lit.int .i64 a).wf = true) (_ : (Lit.int .i64 b).wf = true) (_ : (Lit.int .i64 s).wf = true) (_ : (Lit.int .i64 c).wf = true) : ∃ k, quillworklaw05_CellsStyles.f k l a b s c = some true := by
  refine Ev.rounds ?_
  obtain ⟨t, ht, ht2⟩ := long_ l hl hL
  have haw := Ev.bind awake_ (Ev.now (true : Bool))
  unfold quillworklaw05_CellsStyles.f
  refine Ev.bind ht ?_
  cases t with
  | true => exact Ev.congr (fun k => if_pos rfl) haw
  | false =>
    have h := ht2 rfl
    have hz : ∀ x ∈ l, x.f2.size < 4294967281 := by
      intro x hx
      obtain ⟨k, hk⟩ := ht.rounds
      obtain ⟨j, hj, rfl⟩ := List.getElem_of_mem hx
      have := long_small_ l hl hL k 0 l.length (by omega) hk j _ (Nat.zero_le _) (List.getElem?_eq_getElem hj)
      omega
    refine Ev.congr (fun k => if_neg (by decide)) ?_
    by_cases hs : spanned_ l a b
    · have hs' := hs
      obtain ⟨hs0, hs1, hs2⟩ := hs'
      obtain ⟨p, rfl⟩ := Int.eq_ofNat_of_zero_le hs0
      obtain ⟨q, rfl⟩ := Int.eq_ofNat_of_zero_le (show 0 ≤ b by omega)
      have e : cells_Set.f l (p : Int) (q : Int) s c = some (upon_ (over_ s c) l p q, 0) := by
        unfold cells_Set.f
        rw [if_pos hs, if_pos (by omega), Int.toNat_natCast, Int.toNat_natCast]
      rw [e]
      refine Ev.bind (Ev.now _) (Ev.congr (fun k => ?_) (tail_ l h hz p q s c (by omega) (by omega) _ 0 rfl (Nat.zero_le _)))
      rw [if_pos rfl, if_pos (by rw [upon_len_ _ _ _ _ (by omega) (by omega)])]
      rfl
    · have e : cells_Set.f l a b s c = some ([], 1) := by unfold cells_Set.f; rw [if_neg hs]
      rw [e]
      exact Ev.bind (Ev.now _) (Ev.congr (fun k => by rw [if_neg (by decide)]) haw)
end Go.Proofs.YtgdpknmffohhaaaDoor.Pure
