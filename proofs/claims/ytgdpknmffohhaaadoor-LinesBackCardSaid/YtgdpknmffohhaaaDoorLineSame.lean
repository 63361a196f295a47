/- Whether lines are the same; whether a line is long. -/
import Derived.Test.YtgdpknmffohhaaaDoorLineBase
import Derived.Test.YtgdpknmffohhaaaDoorM0
namespace Go.Proofs.YtgdpknmffohhaaaDoor.Pl
open Go.RowKit Go.Lib Go.Proofs.YtgdpknmffohhaaaDoorW.PrintWords Go.Proofs.YtgdpknmffohhaaaDoorW.PrintLast Go.Proofs.YtgdpknmffohhaaaDoorW.PrintMore
set_option linter.unusedVariables false
def cellEq (a b : S71) : Bool := (a.f0 == b.f0) && ((a.f1 == b.f1) && (a.f2.toList == b.f2.toList))
theorem cellEq_iff {a b : S71} : cellEq a b = true ↔ a = b := by
  unfold cellEq
  rw [Bool.and_eq_true, Bool.and_eq_true, beq_iff_eq, beq_iff_eq, beq_iff_eq]
  constructor
  · rintro ⟨h0, h1, h2⟩
    obtain ⟨a0, a1, a2⟩ := a
    obtain ⟨b0, b1, b2⟩ := b
    dsimp only at h0 h1 h2
    rw [ByteArray.toList_eq, ByteArray.toList_eq] at h2
    have h3 : a2 = b2 := by
      cases a2
      cases b2
      congr 1
      exact Array.toList_inj.1 h2
    rw [h0, h1, h3]
  · rintro rfl
    exact ⟨rfl, rfl, rfl⟩
def sameC : List S71 → List S71 → Bool
  | [], [] => true
  | a :: s, b :: t => cellEq a b && sameC s t
  | _, _ => false
theorem sameC_iff : ∀ {x y : List S71}, sameC x y = true ↔ x = y
  | [], [] => by simp [sameC]
  | a :: s, b :: t => by
    rw [sameC, Bool.and_eq_true, cellEq_iff, sameC_iff, List.cons.injEq]
  | [], b :: t => by simp [sameC]
  | a :: s, [] => by simp [sameC]
theorem sameC_len {x y : List S71} (h : x.length ≠ y.length) : sameC x y = false := by
  cases e : sameC x y with
  | false => rfl
  | true => exact absurd (congrArg List.length (sameC_iff.1 e)) h
def sameL (x y : Ln) : Bool := (x.q == y.q) && ((x.k == y.k) && ((x.ls == y.ls) && sameC x.cs y.cs))
theorem sameL_iff {x y : Ln} : sameL x y = true ↔ x = y := by
  unfold sameL
  rw [Bool.and_eq_true, Bool.and_eq_true, Bool.and_eq_true, beq_iff_eq, beq_iff_eq, beq_iff_eq, sameC_iff]
  constructor
  · rintro ⟨h0, h1, h2, h3⟩
    cases x
    cases y
    dsimp only at h0 h1 h2 h3
    rw [h0, h1, h2, h3]
  · rintro rfl
    exact ⟨rfl, rfl, rfl, rfl⟩
theorem w64s_ (n : Int) (h : -9223372036854775808 ≤ n ∧ n ≤ 9223372036854775807) : wrap64 n = n := by unfold wrap64; omega
theorem rdc_ {l : List S71} {i : Nat} (h : i < l.length) : rd_T71 l (i : Int) = l[i] := by
  unfold rd_T71
  rw [List.getD_eq_getElem?_getD, Int.toNat_natCast, List.getElem?_eq_getElem h]
  rfl
theorem rdi_ {l : List Int} {i : Nat} (h : i < l.length) : rd l (i : Int) = l[i] := by
  unfold rd
  rw [List.getD_eq_getElem?_getD, Int.toNat_natCast, List.getElem?_eq_getElem h]
  rfl
theorem eqI_loop_ (x y : List Int) (hl : x.length = y.length) (hx : x.length ≤ 1000000000) : ∀ (m i : Nat), x.length - i = m → i ≤ x.length → Ev (fun k => slices_Equal_int.l0 k x y (x.length : Int) (i : Int)) (x.drop i == y.drop i) := by
  intro m
  induction m with
  | zero =>
    intro i hm hi
    refine Ev.step (f := fun _ => some _) (fun k => ?_) (Ev.now _)
    simp only [slices_Equal_int.l0]
    rw [if_neg (by omega), List.drop_eq_nil_of_le (by omega), List.drop_eq_nil_of_le (by omega)]
    rfl
  | succ m ih =>
    intro i hm hi
    have e3 : wrap64 ((i : Int) + 1) = ((i + 1 : Nat) : Int) := by rw [w64s_ _ (by omega)]; omega
    have hd : (x.drop i == y.drop i) = ((x[i]'(by omega) == y[i]'(by omega)) && (x.drop (i + 1) == y.drop (i + 1))) := by
      rw [List.drop_eq_getElem_cons (show i < x.length by omega), List.drop_eq_getElem_cons (show i < y.length by omega)]
      rfl
    rw [hd]
    by_cases h : x[i]'(by omega) = y[i]'(by omega)
    · rw [beq_iff_eq.mpr h, Bool.true_and]
      refine Ev.step (fun k => ?_) (ih (i + 1) (by omega) (by omega))
      simp only [slices_Equal_int.l0]
      rw [if_pos (by omega), if_pos (by omega), if_pos (by omega), if_pos (by omega), if_pos (by rw [rdi_ (by omega), rdi_ (by omega)]; exact h), e3]
    · rw [beq_eq_false_iff_ne.mpr h, Bool.false_and]
      refine Ev.step (f := fun _ => some _) (fun k => ?_) (Ev.now _)
      simp only [slices_Equal_int.l0]
      rw [if_pos (by omega), if_pos (by omega), if_pos (by omega), if_pos (by omega), if_neg (by rw [rdi_ (by omega), rdi_ (by omega)]; exact h)]
theorem eqI_ (x y : List Int) (hx : x.length ≤ 1000000000) : Ev (fun k => slices_Equal_int.f k x y) (x == y) := by
  unfold slices_Equal_int.f
  by_cases h : x.length = y.length
  · exact Ev.congr (fun k => if_pos (by omega)) (eqI_loop_ x y h hx _ 0 rfl (Nat.zero_le _))
  · have : (x == y) = false := beq_eq_false_iff_ne.mpr (fun e => h (congrArg List.length e))
    rw [this]
    exact Ev.congr (fun k => if_neg (by omega)) (Ev.now _)
theorem eqC_loop_ (x y : List S71) (hl : x.length = y.length) (hx : x.length ≤ 1000000000) : ∀ (m i : Nat), x.length - i = m → i ≤ x.length → Ev (fun k => slices_Equal_Cell.l0 k x y (x.length : Int) (i : Int)) (sameC (x.drop i) (y.drop i)) := by
  intro m
  induction m with
  | zero =>
    intro i hm hi
    refine Ev.step (f := fun _ => some _) (fun k => ?_) (Ev.now _)
    simp only [slices_Equal_Cell.l0]
    rw [if_neg (by omega), List.drop_eq_nil_of_le (by omega), List.drop_eq_nil_of_le (by omega)]
    rfl
  | succ m ih =>
    intro i hm hi
    have e3 : wrap64 ((i : Int) + 1) = ((i + 1 : Nat) : Int) := by rw [w64s_ _ (by omega)]; omega
    have hd : sameC (x.drop i) (y.drop i) = (cellEq (x[i]'(by omega)) (y[i]'(by omega)) && sameC (x.drop (i + 1)) (y.drop (i + 1))) := by
      rw [List.drop_eq_getElem_cons (show i < x.length by omega), List.drop_eq_getElem_cons (show i < y.length by omega)]
      rfl
    have hb : ∀ a b : S71, (!(a.f0 == b.f0) || (!(a.f1 == b.f1) || (!(a.f2.toList == b.f2.toList)))) = !(cellEq a b) := fun a b => by
      unfold cellEq
      cases a.f0 == b.f0 <;> cases a.f1 == b.f1 <;> cases a.f2.toList == b.f2.toList <;> rfl
    rw [hd]
    cases h : cellEq (x[i]'(by omega)) (y[i]'(by omega)) with
    | true =>
      rw [Bool.true_and]
      refine Ev.step (fun k => ?_) (ih (i + 1) (by omega) (by omega))
      simp only [slices_Equal_Cell.l0]
      rw [if_pos (by omega), if_pos (by omega), if_pos (by omega), if_pos (by omega), hb, rdc_ (by omega), rdc_ (by omega), h, if_neg (by decide), e3]
    | false =>
      rw [Bool.false_and]
      refine Ev.step (f := fun _ => some _) (fun k => ?_) (Ev.now _)
      simp only [slices_Equal_Cell.l0]
      rw [if_pos (by omega), if_pos (by omega), if_pos (by omega), if_pos (by omega), hb, rdc_ (by omega), rdc_ (by omega), h, if_pos (by decide)]
theorem eqC_ (x y : List S71) (hx : x.length ≤ 1000000000) : Ev (fun k => cells_Same.f k x y) (sameC x y) := by
  unfold cells_Same.f
  refine Ev.bind ?_ (Ev.now _)
  unfold slices_Equal_Cell.f
  by_cases h : x.length = y.length
  · exact Ev.congr (fun k => if_pos (by omega)) (eqC_loop_ x y h hx _ 0 rfl (Nat.zero_le _))
  · rw [sameC_len h]
    exact Ev.congr (fun k => if_neg (by omega)) (Ev.now _)
theorem same_ev_ (x y : Ln) (hx : x.ls.length ≤ 1000000000) (hc : x.cs.length ≤ 1000000000) : Ev (fun k => lines_Same.f k x.q x.ls x.k x.cs y.q y.ls y.k y.cs) (sameL x y) := by
  unfold lines_Same.f sameL
  by_cases h0 : x.q = y.q
  · rw [beq_iff_eq.mpr h0, Bool.true_and]
    refine Ev.congr (fun k => if_pos h0) ?_
    by_cases h1 : x.k = y.k
    · rw [beq_iff_eq.mpr h1, Bool.true_and]
      refine Ev.congr (fun k => if_pos h1) ?_
      refine Ev.bind (eqI_ _ _ hx) ?_
      cases e : x.ls == y.ls with
      | true => exact Ev.congr (fun k => if_pos rfl) (Ev.bind (eqC_ _ _ hc) (by rw [Bool.true_and]; exact Ev.now _))
      | false => exact Ev.congr (fun k => if_neg (by decide)) (Ev.now _)
    · rw [beq_eq_false_iff_ne.mpr h1]
      exact Ev.congr (fun k => if_neg h1) (Ev.now _)
  · rw [beq_eq_false_iff_ne.mpr h0]
    exact Ev.congr (fun k => if_neg h0) (Ev.now _)
theorem same_calls_ (x y : Ln) (v u : Value) (w : World) (hx : RdL w v x) (hy : RdL w u y) (hz : Sz x) :
    Calls Tryd.prog 19 #[v, u] w fun e w' => e = .returned (.bool (sameL x y)) ∧ Below w.heap.size w w' := by
  obtain ⟨_, _, rfl, ⟨A1, c1, rfl, h1, hc1⟩, ⟨A3, c3, rfl, h3, hc3⟩⟩ := hx
  obtain ⟨_, _, rfl, ⟨B1, d1, rfl, g1, gc1⟩, ⟨B3, d3, rfl, g3, gc3⟩⟩ := hy
  obtain ⟨k, hk⟩ := (same_ev_ x y (by have := hz.1; omega) (by have := hz.2.1; omega)).rounds
  exact lines_Same.calls k _ _ _ _ _ _ _ _ _ _ _ _ _ _ _ _ _ w h1 hc1 h3 hc3 g1 gc1 g3 gc3 hk
theorem eqR_loop_ (x y : List S71) (hl : x.length = y.length) (hx : x.length ≤ 1000000000) : ∀ (m i : Nat), x.length - i = m → i ≤ x.length → Ev (fun k => quillworkref05_Same.l0 k x y (i : Int)) (sameC (x.drop i) (y.drop i)) := by
  intro m
  induction m with
  | zero =>
    intro i hm hi
    refine Ev.step (f := fun _ => some _) (fun k => ?_) (Ev.now _)
    simp only [quillworkref05_Same.l0]
    rw [if_neg (by omega), List.drop_eq_nil_of_le (by omega), List.drop_eq_nil_of_le (by omega)]
    rfl
  | succ m ih =>
    intro i hm hi
    have e3 : wrap64 ((i : Int) + 1) = ((i + 1 : Nat) : Int) := by rw [w64s_ _ (by omega)]; omega
    have hd : sameC (x.drop i) (y.drop i) = (cellEq (x[i]'(by omega)) (y[i]'(by omega)) && sameC (x.drop (i + 1)) (y.drop (i + 1))) := by
      rw [List.drop_eq_getElem_cons (show i < x.length by omega), List.drop_eq_getElem_cons (show i < y.length by omega)]
      rfl
    rw [hd]
    have ex := rdc_ (l := x) (i := i) (by omega)
    have ey := rdc_ (l := y) (i := i) (by omega)
    generalize x[i]'(by omega) = a at ex ⊢
    generalize y[i]'(by omega) = b at ey ⊢
    by_cases h : a = b
    · rw [cellEq_iff.2 h, Bool.true_and]
      refine Ev.step (fun k => ?_) (ih (i + 1) (by omega) (by omega))
      simp only [quillworkref05_Same.l0]
      rw [if_pos (by omega), if_pos (by omega), if_pos (by omega), ex, ey, h, if_pos rfl, if_pos rfl, if_pos rfl, e3]
    · have hf : cellEq a b = false := by
        cases e : cellEq a b with
        | false => rfl
        | true => exact absurd (cellEq_iff.1 e) h
      rw [hf, Bool.false_and]
      refine Ev.step (f := fun _ => some _) (fun k => ?_) (Ev.now _)
      simp only [quillworkref05_Same.l0]
      rw [if_pos (by omega), if_pos (by omega), if_pos (by omega), ex, ey]
      unfold cellEq at hf
      by_cases h0 : a.f0 = b.f0
      · rw [if_pos h0]
        by_cases h1 : a.f1 = b.f1
        · rw [if_pos h1]
          rw [beq_iff_eq.mpr h0, beq_iff_eq.mpr h1, Bool.true_and, Bool.true_and, beq_eq_false_iff_ne] at hf
          rw [if_neg hf]
        · rw [if_neg h1]
      · rw [if_neg h0]
theorem same05_calls_ (x y : List S71) (v u : Value) (w : World) (hx : Rd k71 w v x) (hy : Rd k71 w u y) (hl : x.length ≤ 1000000000) :
    Calls Tryd.prog 36 #[v, u] w fun e w' => e = .returned (.bool (sameC x y)) ∧ Drawn0 w w' := by
  obtain ⟨A3, c3, rfl, h3, hc3⟩ := hx
  obtain ⟨B3, d3, rfl, g3, gc3⟩ := hy
  have : Ev (fun k => quillworkref05_Same.f k x y) (sameC x y) := by
    unfold quillworkref05_Same.f
    by_cases h : x.length = y.length
    · exact Ev.congr (fun k => if_pos (by omega)) (eqR_loop_ x y h hl _ 0 rfl (Nat.zero_le _))
    · rw [sameC_len h]
      exact Ev.congr (fun k => if_neg (by omega)) (Ev.now _)
  obtain ⟨k, hk⟩ := this.rounds
  exact quillworkref05_Same.calls k _ _ _ _ _ _ _ w h3 hc3 g3 gc3 hk
def hrefs (cs : List S71) : Nat := (cs.map fun c => c.f2.size).sum
def longL (x : Ln) : Bool := decide (20000 < x.cs.length) || (decide (1000 < x.ls.length) || decide (200000 < hrefs x.cs))
theorem hrefs_append (a b : List S71) : hrefs (a ++ b) = hrefs a + hrefs b := by unfold hrefs; rw [List.map_append, List.sum_append]
theorem hrefs_mem {cs : List S71} {c : S71} (h : c ∈ cs) : c.f2.size ≤ hrefs cs := by
  induction cs with
  | nil => cases h
  | cons a t ih =>
    rw [show a :: t = [a] ++ t from rfl, hrefs_append]
    rcases List.mem_cons.1 h with rfl | h
    · unfold hrefs; simp
    · have := ih h; omega
theorem hrefs_take (cs : List S71) (i : Nat) : hrefs (cs.take i) ≤ hrefs cs := by
  have := hrefs_append (cs.take i) (cs.drop i)
  rw [List.take_append_drop] at this
  omega
theorem hrefs_step {cs : List S71} {i : Nat} {c : S71} (h : cs[i]? = some c) : hrefs (cs.take (i + 1)) = hrefs (cs.take i) + c.f2.size := by
  rw [List.take_add_one, h, hrefs_append]
  unfold hrefs
  simp
theorem longL_Sz {x : Ln} (h : longL x = false) : Sz x := by
  unfold longL at h
  rw [Bool.or_eq_false_iff, Bool.or_eq_false_iff, decide_eq_false_iff_not, decide_eq_false_iff_not, decide_eq_false_iff_not] at h
  exact ⟨by omega, by omega, fun c hc => by have := hrefs_mem hc; omega⟩
set_option maxRecDepth 100000 in
set_option maxHeartbeats 4000000 in
theorem long06_calls_ (x : Ln) (v : Value) (w : World) (hx : RdL w v x) (hok : ∀ c ∈ x.cs, c.f2.size ≤ 140737488355328) :
    Calls Tryd.prog 24 #[v] w fun e w' => e = .returned (.bool (longL x)) ∧ Below w.heap.size w w' := by
  have hu38 := Tryd.underlying38
  have hu71 := Tryd.underlying71
  obtain ⟨_, _, rfl, ⟨A1, c1, rfl, h1, hc1⟩, ⟨A3, c3, rfl, h3, hc3⟩⟩ := hx
  have HK3 := Aside0.mk h3
  have F0 := heap_alloc_new w (.cells #[.int .i64 x.q, .slice A1 x.ls.length c1, .int .i64 x.k, .slice A3 x.cs.length c3] 38)
  have FB := below_alloc (Below.refl w.heap.size w) (.cells #[.int .i64 x.q, .slice A1 x.ls.length c1, .int .i64 x.k, .slice A3 x.cs.length c3] 38)
  have HOK := Aside0.mk hok
  clear h1 h3 hok
  by_cases k1 : 20000 < x.cs.length
  · have d1 : decide (20000 < (x.cs.length : Int)) = true := decide_eq_true (by omega)
    have HR := Aside0.mk (show longL x = true by unfold longL; rw [decide_eq_true k1]; rfl)
    clear k1 F0
    go_enter Tryd.func24, Tryd.ntmps24
    go_wp2
    go_ret
    exact ⟨by rw [HR.out]; rfl, FB⟩
  · have d1 : decide (20000 < (x.cs.length : Int)) = false := decide_eq_false (by omega)
    by_cases k2 : 1000 < x.ls.length
    · have d2 : decide (1000 < (x.ls.length : Int)) = true := decide_eq_true (by omega)
      have HR := Aside0.mk (show longL x = true by unfold longL; rw [decide_eq_true k2, Bool.true_or, Bool.or_true])
      clear k1 k2 F0
      go_enter Tryd.func24, Tryd.ntmps24
      go_wp2
      go_ret
      exact ⟨by rw [HR.out]; rfl, FB⟩
    · have d2 : decide (1000 < (x.ls.length : Int)) = false := decide_eq_false (by omega)
      have HL := Aside0.mk (show x.cs.length ≤ 20000 ∧ x.ls.length ≤ 1000 by omega)
      have hlen : x.cs.length ≤ 20000 := by omega
      have HR := Aside0.mk (show longL x = decide (200000 < hrefs x.cs) by unfold longL; rw [decide_eq_false k1, decide_eq_false k2]; rfl)
      clear k1 k2
      go_enter Tryd.func24, Tryd.ntmps24
      go_wp2
      generalize w.alloc (.cells #[.int .i64 x.q, .slice A1 x.ls.length c1, .int .i64 x.k, .slice A3 x.cs.length c3] 38) = W0 at F0 FB ⊢
      have c3' : W0.cell? ⟨w.heap.size, 3, none⟩ = some (.slice A3 x.cs.length c3) := (blk_cell F0 3).trans rfl
      have HFB := Aside0.mk FB
      clear F0 FB
      go_loopg [3, 4] (x.cs.length + 1) (fun g v3 v4 w' => ∃ (i n : Nat), v3 = .int .i64 (n : Int) ∧ v4 = .int .i64 (i : Int) ∧ w' = W0 ∧ i + g = x.cs.length + 1 ∧ i ≤ x.cs.length ∧ Aside0 (n = hrefs (x.cs.take i)))
      case atStart => exact ⟨0, 0, rfl, rfl, rfl, by omega, Nat.zero_le _, ⟨rfl⟩⟩
      case round =>
        obtain ⟨i, n, rfl, rfl, rfl, hg, hi, HI⟩ := hrel
        by_cases hlt : i < x.cs.length
        · have e1 : decide ((i : Int) < (x.cs.length : Int)) = true := decide_eq_true (by omega)
          by_cases hn2 : n ≤ 200000
          · have e2 : decide ((n : Int) ≤ 200000) = true := decide_eq_true (by omega)
            obtain ⟨ad, e, y0, y1, y2⟩ := at_T71 HK3.out (i : Int) (by omega) (by omega)
            cases e
            replace y2 := (HFB.out.cell (World.block_lt_of_cell? w _ y2)).trans y2
            clear y0 y1
            rw [Int.toNat_natCast] at y2
            have hm : rd_T71 x.cs (i : Int) ∈ x.cs := List.mem_of_getElem? (rd_at_ hlt)
            have hs := HOK.out _ hm
            have HA := Aside0.mk (rd_at_ (xs := x.cs) hlt)
            generalize rd_T71 x.cs (i : Int) = c at y2 hs HA
            clear hm
            obtain ⟨g', rfl⟩ : ∃ g', gk = g' + 1 := ⟨gk - 1, by omega⟩
            have w1 : IntKind.i64.wrap ((n : Int) + (c.f2.size : Int)) = ((n + c.f2.size : Nat) : Int) := by rw [i64_w]; unfold wrap64; omega
            have w2 : IntKind.i64.wrap ((i : Int) + 1) = ((i + 1 : Nat) : Int) := by rw [i64_w]; unfold wrap64; omega
            go_wp2
            go_roundg g'
            case measure => omega
            case rel => exact ⟨i + 1, n + c.f2.size, by first | rfl | (simp; done), by first | rfl | (simp; done), rfl, by omega, by omega, ⟨by rw [hrefs_step HA.out, ← HI.out]⟩⟩
          · have e2 : decide ((n : Int) ≤ 200000) = false := decide_eq_false (by omega)
            have e3 : decide (200000 < (n : Int)) = true := decide_eq_true (by omega)
            have HT := Aside0.mk (show longL x = true by rw [HR.out]; exact decide_eq_true (by have := hrefs_take x.cs i; have := HI.out; omega))
            clear hn2
            go_wp2
            go_ret
            exact ⟨by rw [HT.out]; rfl, HFB.out⟩
        · have e1 : decide ((i : Int) < (x.cs.length : Int)) = false := decide_eq_false (by omega)
          obtain rfl : i = x.cs.length := by omega
          by_cases hn2 : n ≤ 200000
          · have e3 : decide (200000 < (n : Int)) = false := decide_eq_false (by omega)
            have HT := Aside0.mk (show longL x = false by rw [HR.out]; exact decide_eq_false (by have := HI.out; rw [List.take_length] at this; omega))
            clear hn2
            go_wp2
            go_ret
            exact ⟨by rw [HT.out]; rfl, HFB.out⟩
          · have e3 : decide (200000 < (n : Int)) = true := decide_eq_true (by omega)
            have HT := Aside0.mk (show longL x = true by rw [HR.out]; exact decide_eq_true (by have := HI.out; rw [List.take_length] at this; omega))
            clear hn2
            go_wp2
            go_ret
            exact ⟨by rw [HT.out]; rfl, HFB.out⟩
end Go.Proofs.YtgdpknmffohhaaaDoor.Pl
