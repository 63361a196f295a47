/- slices.ContainsFunc over whole numbers; lines.May. -/
import Derived.Test.YtgdpknmffohhaaaDoorLineBase
namespace Go.Proofs.YtgdpknmffohhaaaDoor.Pl
open Go.RowKit Go.Lib Go.Proofs.YtgdpknmffohhaaaDoorW.PrintWords Go.Proofs.YtgdpknmffohhaaaDoorW.PrintLast Go.Proofs.YtgdpknmffohhaaaDoorW.PrintMore
set_option linter.unusedVariables false
def argI_ (x : Int) : Value := .int .i64 x
theorem atI_ {w : World} {A : Option Addr} {n : Nat} {xs : List Int} (h : Kd.C (Kd.int .i64) w A n xs) (i : Int) (h0 : 0 ≤ i) (h1 : i < n) : ∃ ad, A = some ad ∧ w.cell? (ad.add i.toNat) = some (.int .i64 (rd xs i)) := by
  obtain ⟨ad, c, e, _, hK, hc0⟩ := Kd.C_get h 0 i h0 h1
  have hc : ∀ j u, c[j]? = some u → w.cell? (ad.add (i.toNat * 1 + j)) = some u := hc0
  obtain rfl : c = [.int .i64 (rd xs i)] := hK
  have := hc 0 _ rfl
  rw [Nat.mul_one, Nat.add_zero] at this
  exact ⟨ad, e, this⟩
theorem rdI_at_ {xs : List Int} {k : Nat} (hk : k < xs.length) : xs[k]? = some (rd xs (k : Int)) := by
  unfold rd
  rw [Int.toNat_natCast, List.getD_eq_getElem?_getD, List.getElem?_eq_getElem hk]
  rfl
set_option maxHeartbeats 4000000 in
theorem indexI_ (A0 : Option Addr) (c0 : Nat) (l0 : List Int) (g : Nat) (lb : Array Value) (p : Int → Bool) (w : World) (hr0 : Kd.C (Kd.int .i64) w A0 l0.length l0) (hc0 : l0.length ≤ c0) (eg : ∀ args w, (callFunc g args).run Tryd.prog w = .ok (.enter g args) w)
    (hf : Tells_ argI_ w g lb p l0) : Calls Tryd.prog 123 #[.slice A0 l0.length c0, .func (.func g) #[] lb] w fun e w' => (∃ i : Int, e = .returned (.int .i64 i) ∧ decide (0 ≤ i) = l0.any p) ∧ Below w.heap.size w w' := by
  have HR0 := Aside0.mk hr0
  have HF := Aside0.mk hf
  have HB := Aside0.mk (Below.refl w.heap.size w)
  have hlen : l0.length ≤ 9223372036854775807 := hr0.2.1
  clear hr0 hf
  go_enter Tryd.func123, Tryd.ntmps123
  go_wp2
  go_loopw [8] (fun v wr => ∃ k : Nat, v = .int .i64 (k : Int) ∧ k ≤ l0.length ∧ Aside0 (∀ j, j < k → p (rd l0 (j : Int)) = false) ∧ Aside0 (Below w.heap.size w wr)) (fun v _ => l0.length - (intOf v).toNat)
  case atStart => exact ⟨0, rfl, Nat.zero_le _, ⟨fun j hj => absurd hj (Nat.not_lt_zero _)⟩, HB⟩
  case round =>
    clear HB
    obtain ⟨k, rfl, hk, HN, HB⟩ := hrel
    by_cases hlt : k < l0.length
    · obtain ⟨ad, e, h0⟩ := atI_ HR0.out (k : Int) (by omega) (by omega)
      cases e
      replace h0 := (HB.out.cell (World.block_lt_of_cell? w _ h0)).trans h0
      rw [Int.toNat_natCast] at h0
      have hm : rd l0 (k : Int) ∈ l0 := List.mem_of_getElem? (rdI_at_ hlt)
      generalize hx : rd l0 (k : Int) = x at h0 hm
      have HF1 := Aside0.mk (HF.out x hm)
      clear hm
      cases hp : p x with
      | true =>
        have HY := Aside0.mk (show l0.any p = true from List.any_eq_true.2 ⟨x, by rw [← hx]; exact List.mem_of_getElem? (rdI_at_ hlt), hp⟩)
        go_wp2_with (go_at_fn g; refine (HF1.out _ HB.out).mono ?_; rw [hp]; rintro e w' ⟨rfl, hb⟩; have HB' := Aside0.mk hb; clear hb)
        go_ret
        exact ⟨⟨(k : Int), rfl, by rw [HY.out, decide_eq_true (by omega)]⟩, HB.out.trans (HB'.out.mono HB.out.size)⟩
      | false =>
        go_wp2_with (go_at_fn g; refine (HF1.out _ HB.out).mono ?_; rw [hp]; rintro e w' ⟨rfl, hb⟩; have HB' := Aside0.mk hb; clear hb)
        go_roundw
        case rel => exact ⟨k + 1, by go_num, by omega, ⟨fun j hj => by
          by_cases h : j = k
          · rw [h, hx]; exact hp
          · exact HN.out j (by omega)⟩, ⟨HB.out.trans (HB'.out.mono HB.out.size)⟩⟩
        case measure => simp [intOf]; omega
    · have HY := Aside0.mk (show l0.any p = false by
        rw [List.any_eq_false]
        intro y hy
        obtain ⟨j, hj, rfl⟩ := List.getElem_of_mem hy
        have := HN.out j (by omega)
        have e2 := rdI_at_ (xs := l0) hj
        rw [List.getElem?_eq_getElem hj] at e2
        have e3 := Option.some.inj e2
        rw [← e3] at this
        simpa using this)
      go_wp2
      go_ret
      exact ⟨⟨-1, rfl, by rw [HY.out]; rfl⟩, HB.out⟩
set_option maxHeartbeats 4000000 in
theorem containsI_ (A0 : Option Addr) (c0 : Nat) (l0 : List Int) (g : Nat) (lb : Array Value) (p : Int → Bool) (w : World) (hr0 : Kd.C (Kd.int .i64) w A0 l0.length l0) (hc0 : l0.length ≤ c0) (eg : ∀ args w, (callFunc g args).run Tryd.prog w = .ok (.enter g args) w)
    (hf : Tells_ argI_ w g lb p l0) : Calls Tryd.prog 83 #[.slice A0 l0.length c0, .func (.func g) #[] lb] w fun e w' => e = .returned (.bool (l0.any p)) ∧ Below w.heap.size w w' := by
  have HI := Aside0.mk (indexI_ A0 c0 l0 g lb p w hr0 hc0 eg hf)
  clear hr0 hf
  go_enter Tryd.func83, Tryd.ntmps83
  go_wp2_with (go_at_call 123; refine HI.out.mono ?_; rintro e w' ⟨⟨i, rfl, hi⟩, hb⟩; have HB := Aside0.mk hb; have HD := Aside0.mk hi; clear hb hi)
  go_ret
  exact ⟨by rw [HD.out]; rfl, HB.out⟩
set_option maxHeartbeats 4000000 in
theorem kindBad_calls_ (k : Int) (w : World) : Calls Tryd.prog 84 #[.int .i64 k] w fun e w' => e = .returned (.bool (kindBad_ k)) ∧ Below w.heap.size w w' := by
  by_cases h : k = 0
  · have h1 : (k != 0) = false := bne_eq_false_iff_eq.mpr h
    go_enter Tryd.func84, Tryd.ntmps84
    go_wp2
    go_ret
    exact ⟨by unfold kindBad_; rw [h1]; rfl, Below.refl _ _⟩
  · have h1 : (k != 0) = true := bne_iff_ne.mpr h
    go_enter Tryd.func84, Tryd.ntmps84
    go_wp2
    go_ret
    exact ⟨by unfold kindBad_; rw [h1]; rfl, Below.refl _ _⟩
theorem mayL_false {x : Ln} (h : ¬ (0 ≤ x.q ∧ x.q ≤ 6 ∧ x.ls.length ≤ 6 ∧ 0 ≤ x.k ∧ x.k ≤ 3 ∧ (x.ls.length = 0 ∨ x.k = 0))) : mayL x = false := by
  unfold mayL
  rw [decide_eq_false h]
  rfl
set_option maxRecDepth 100000 in
set_option maxHeartbeats 4000000 in
theorem may_calls_ (x : Ln) (v : Value) (w : World) (hx : RdL w v x) (hz : Sz x) (hG : Gl_ w) :
    Calls Tryd.prog 37 #[v] w fun e w' => e = .returned (.bool (mayL x)) ∧ Below w.heap.size w w' := by
  have hu38 := Tryd.underlying38
  obtain ⟨_, _, rfl, ⟨A1, c1, rfl, h1, hc1⟩, ⟨A3, c3, rfl, h3, hc3⟩⟩ := hx
  have HS := Aside0.mk hz.may
  have HC1 := Aside0.mk hc1
  have HC3 := Aside0.mk hc3
  have HK1 := Aside0.mk h1
  have HK3 := Aside0.mk h3
  have HG := Aside0.mk hG
  clear h1 h3 hc1 hc3 hz hG
  by_cases c1_ : x.q < 0
  · have d1 : decide (x.q < 0) = true := decide_eq_true c1_
    have HM := Aside0.mk (mayL_false (x := x) (by omega))
    clear c1_
    go_enter Tryd.func37, Tryd.ntmps37
    go_wp2
    go_ret
    exact ⟨by rw [HM.out]; rfl, below_alloc (Below.refl _ _) _⟩
  have d1 : decide (x.q < 0) = false := decide_eq_false c1_
  by_cases c2_ : 6 < x.q
  · have d2 : decide (6 < x.q) = true := decide_eq_true c2_
    have HM := Aside0.mk (mayL_false (x := x) (by omega))
    clear c1_ c2_
    go_enter Tryd.func37, Tryd.ntmps37
    go_wp2
    go_ret
    exact ⟨by rw [HM.out]; rfl, below_alloc (Below.refl _ _) _⟩
  have d2 : decide (6 < x.q) = false := decide_eq_false c2_
  by_cases c3_ : 6 < (x.ls.length : Int)
  · have d3 : decide (6 < (x.ls.length : Int)) = true := decide_eq_true c3_
    have HM := Aside0.mk (mayL_false (x := x) (by omega))
    clear c1_ c2_ c3_
    go_enter Tryd.func37, Tryd.ntmps37
    go_wp2
    go_ret
    exact ⟨by rw [HM.out]; rfl, below_alloc (Below.refl _ _) _⟩
  have d3 : decide (6 < (x.ls.length : Int)) = false := decide_eq_false c3_
  by_cases c4_ : x.k < 0
  · have d4 : decide (x.k < 0) = true := decide_eq_true c4_
    have HM := Aside0.mk (mayL_false (x := x) (by omega))
    clear c1_ c2_ c3_ c4_
    go_enter Tryd.func37, Tryd.ntmps37
    go_wp2
    go_ret
    exact ⟨by rw [HM.out]; rfl, below_alloc (Below.refl _ _) _⟩
  have d4 : decide (x.k < 0) = false := decide_eq_false c4_
  by_cases c5_ : 3 < x.k
  · have d5 : decide (3 < x.k) = true := decide_eq_true c5_
    have HM := Aside0.mk (mayL_false (x := x) (by omega))
    clear c1_ c2_ c3_ c4_ c5_
    go_enter Tryd.func37, Tryd.ntmps37
    go_wp2
    go_ret
    exact ⟨by rw [HM.out]; rfl, below_alloc (Below.refl _ _) _⟩
  have d5 : decide (3 < x.k) = false := decide_eq_false c5_
  have HR := Aside0.mk (fun (h : x.ls.length = 0 ∨ x.k = 0) => (show mayL x = (!(x.ls.any kindBad_) && !(x.cs.any bad_)) by
    unfold mayL
    rw [decide_eq_true (by omega)]
    rfl))
  have HN := Aside0.mk (fun (h : ¬ (x.ls.length = 0 ∨ x.k = 0)) => mayL_false (x := x) (by omega))
  clear c1_ c2_ c3_ c4_ c5_
  have HK := Aside0.mk (fun W (hW : Below w.heap.size w W) => containsI_ A1 c1 x.ls 84 #[] kindBad_ W (Kd.C_below HK1.out hW) HC1.out (enters_of Tryd.func84 (by kernel_rfl) rfl) (fun k _ W1 _ => kindBad_calls_ k W1))
  have HCM := Aside0.mk (fun W (hW : Below w.heap.size w W) => cells_May.calls A3 c3 x.cs _ W (Kd.C_below HK3.out hW) HC3.out HS.out (HG.out.below hW))
  clear HK1 HK3 HG HS
  have HEND : ∀ (hl : x.ls.length = 0 ∨ x.k = 0), Aside0 (mayL x = (!(x.ls.any kindBad_) && !(x.cs.any bad_))) := fun hl => ⟨HR.out hl⟩
  by_cases c6 : 0 < (x.ls.length : Int)
  · have d6 : decide (0 < x.ls.length) = true := decide_eq_true (by omega)
    by_cases c7 : x.k = 0
    · have d7 : (x.k != 0) = false := bne_eq_false_iff_eq.mpr c7
      have HX := HEND (.inr c7)
      clear c6 c7 HEND HR HN
      cases hb1 : x.ls.any kindBad_ with
      | true =>
        rw [hb1] at HK HX
        go_enter Tryd.func37, Tryd.ntmps37
        go_wp2_with (go_at_call 83; refine (HK.out _ (below_alloc (Below.refl _ _) _)).mono ?_; rintro e w1 ⟨rfl, hb⟩; have HB1 := Aside0.mk hb; clear hb)
        go_ret
        exact ⟨by rw [HX.out]; rfl, below_step (below_alloc (Below.refl _ _) _) HB1.out⟩
      | false =>
        rw [hb1] at HK HX
        have F1 := heap_alloc_new w (.cells #[.int .i64 x.q, .slice A1 x.ls.length c1, .int .i64 x.k, .slice A3 x.cs.length c3] 38)
        go_enter Tryd.func37, Tryd.ntmps37
        go_wp2_with (first | (go_at_call 83; refine (HK.out _ (below_alloc (Below.refl _ _) _)).mono ?_; rintro e w1 ⟨rfl, hb⟩; have g3 : w1.cell? ⟨w.heap.size, 3, none⟩ = some (.slice A3 x.cs.length c3) := (blk_cell (blk_below F1 hb) 3).trans rfl; have HB1 := Aside0.mk hb; clear hb) | (go_at_call 66; refine (HCM.out _ (below_step (below_alloc (Below.refl _ _) _) HB1.out)).mono ?_; rintro e w2 ⟨rfl, hb⟩; have HB2 := Aside0.mk hb; clear hb))
        go_ret
        exact ⟨by rw [HX.out]; rfl, below_step (below_step (below_alloc (Below.refl _ _) _) HB1.out) HB2.out⟩
    · have d7 : (x.k != 0) = true := bne_iff_ne.mpr c7
      have HM := Aside0.mk (HN.out (by omega))
      clear c6 c7 HEND HR HN
      go_enter Tryd.func37, Tryd.ntmps37
      go_wp2
      go_ret
      exact ⟨by rw [HM.out]; rfl, below_alloc (Below.refl _ _) _⟩
  · have d6 : decide (0 < x.ls.length) = false := decide_eq_false (by omega)
    have HX := HEND (.inl (by omega))
    clear c6 HEND HR HN
    cases hb1 : x.ls.any kindBad_ with
    | true =>
      rw [hb1] at HK HX
      go_enter Tryd.func37, Tryd.ntmps37
      go_wp2_with (go_at_call 83; refine (HK.out _ (below_alloc (Below.refl _ _) _)).mono ?_; rintro e w1 ⟨rfl, hb⟩; have HB1 := Aside0.mk hb; clear hb)
      go_ret
      exact ⟨by rw [HX.out]; rfl, below_step (below_alloc (Below.refl _ _) _) HB1.out⟩
    | false =>
      rw [hb1] at HK HX
      have F1 := heap_alloc_new w (.cells #[.int .i64 x.q, .slice A1 x.ls.length c1, .int .i64 x.k, .slice A3 x.cs.length c3] 38)
      go_enter Tryd.func37, Tryd.ntmps37
      go_wp2_with (first | (go_at_call 83; refine (HK.out _ (below_alloc (Below.refl _ _) _)).mono ?_; rintro e w1 ⟨rfl, hb⟩; have g3 : w1.cell? ⟨w.heap.size, 3, none⟩ = some (.slice A3 x.cs.length c3) := (blk_cell (blk_below F1 hb) 3).trans rfl; have HB1 := Aside0.mk hb; clear hb) | (go_at_call 66; refine (HCM.out _ (below_step (below_alloc (Below.refl _ _) _) HB1.out)).mono ?_; rintro e w2 ⟨rfl, hb⟩; have HB2 := Aside0.mk hb; clear hb))
      go_ret
      exact ⟨by rw [HX.out]; rfl, below_step (below_step (below_alloc (Below.refl _ _) _) HB1.out) HB2.out⟩
end Go.Proofs.YtgdpknmffohhaaaDoor.Pl
