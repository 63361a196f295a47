/- Printed texts, and given ones, of the seat's functions, in one file. -/
import Derived.Test.YtgdpknmffohhaaaDoorM0
namespace Go.Proofs.YtgdpknmffohhaaaDoor.Pr
open Go.RowKit Go.Proofs.YtgdpknmffohhaaaDoorW.PrintWords Go.Proofs.YtgdpknmffohhaaaDoorW.PrintLast Go.Proofs.YtgdpknmffohhaaaDoorW.PrintMore
attribute [local go_sem] max2_int min2_int max_two min_two max_three min_three max_four min_four   -- for this text's walks alone
set_option linter.unusedVariables false
set_option linter.unusedSimpArgs false

/-! ### lib_index -/
/-- what a predicate handed to the library comes to at these elements, whatever was made behind w -/
def Tells_ {α : Type} (arg : α → Value) (w : World) (g : Nat) (lb : Array Value) (p : α → Bool) (l : List α) : Prop :=
  ∀ x ∈ l, ∀ W, Below w.heap.size w W → Calls Tryd.prog g (#[arg x] ++ lb) W fun e W' => e = .returned (.bool (p x)) ∧ Below W.heap.size W W'
def argC_ (x : S71) : Value := .agg #[.int .i32 x.f0, .int .i64 x.f1, .string x.f2]
set_option maxHeartbeats 4000000 in
theorem indexC_ (A0 : Option Addr) (c0 : Nat) (l0 : List S71) (g : Nat) (lb : Array Value) (p : S71 → Bool) (w : World) (hr0 : Kd.C k71 w A0 l0.length l0) (hc0 : l0.length ≤ c0) (eg : ∀ args w, (callFunc g args).run Tryd.prog w = .ok (.enter g args) w)
    (hf : Tells_ argC_ w g lb p l0) : Calls Tryd.prog 132 #[.slice A0 l0.length c0, .func (.func g) #[] lb] w fun e w' => (∃ i : Int, e = .returned (.int .i64 i) ∧ decide (0 ≤ i) = l0.any p) ∧ Below w.heap.size w w' := by
  have HR0 := Aside0.mk hr0
  have HF := Aside0.mk hf
  have HB := Aside0.mk (Below.refl w.heap.size w)
  have hlen : l0.length ≤ 9223372036854775807 := hr0.2.1
  have hu30 := Tryd.underlying71
  clear hr0 hf
  go_enter Tryd.func132, Tryd.ntmps132
  go_wp2
  go_loopw [8] (fun v wr => ∃ k : Nat, v = .int .i64 (k : Int) ∧ k ≤ l0.length ∧ Aside0 (∀ j, j < k → p (rd_T71 l0 (j : Int)) = false) ∧ Aside0 (Below w.heap.size w wr)) (fun v _ => l0.length - (intOf v).toNat)
  case atStart => exact ⟨0, rfl, Nat.zero_le _, ⟨fun j hj => absurd hj (Nat.not_lt_zero _)⟩, HB⟩
  case round =>
    clear HB
    obtain ⟨k, rfl, hk, HN, HB⟩ := hrel
    by_cases hlt : k < l0.length
    · obtain ⟨ad, e, h0, h1, h2⟩ := at_T71 HR0.out (k : Int) (by omega) (by omega)
      cases e
      replace h0 := (HB.out.cell (World.block_lt_of_cell? w _ h0)).trans h0
      replace h1 := (HB.out.cell (World.block_lt_of_cell? w _ h1)).trans h1
      replace h2 := (HB.out.cell (World.block_lt_of_cell? w _ h2)).trans h2
      rw [Int.toNat_natCast] at h0 h1 h2
      have hm : rd_T71 l0 (k : Int) ∈ l0 := List.mem_of_getElem? (rd_at_ hlt)
      generalize hx : rd_T71 l0 (k : Int) = x at h0 h1 h2 hm
      have HF1 := Aside0.mk (HF.out x hm)
      clear hm
      cases hp : p x with
      | true =>
        have HY := Aside0.mk (show l0.any p = true from List.any_eq_true.2 ⟨x, by rw [← hx]; exact List.mem_of_getElem? (rd_at_ hlt), hp⟩)
        go_wp2_with (go_at_fn g; refine (HF1.out _ HB.out).mono ?_; rw [hp]; rintro e w' ⟨rfl, hb⟩; have HB' := Aside0.mk hb; clear hb)
        go_ret
        exact ⟨⟨(k : Int), rfl, by rw [HY.out, decide_eq_true (by omega)]⟩, HB.out.trans (HB'.out.mono HB.out.size)⟩
      | false =>
        go_wp2_with (go_at_fn g; refine (HF1.out _ HB.out).mono ?_; rw [hp]; rintro e w' ⟨rfl, hb⟩; have HB' := Aside0.mk hb; clear hb)
        go_roundw
        case rel => exact ⟨k + 1, by go_num, by omega, ⟨fun j hj => by
          by_cases h : j = k
          · rw [h, hx]; exact hp
          · exact HN.out j (by omega)⟩, ⟨HB.out.trans (HB'.out.mono HB.out.size)⟩⟩
        case measure => simp [intOf]; omega
    · have HY := Aside0.mk (show l0.any p = false by
        rw [List.any_eq_false]
        intro y hy
        obtain ⟨j, hj, rfl⟩ := List.getElem_of_mem hy
        have := HN.out j (by omega)
        have e2 := rd_at_ (xs := l0) hj
        rw [List.getElem?_eq_getElem hj] at e2
        have e3 := Option.some.inj e2
        rw [← e3] at this
        simpa using this)
      go_wp2
      go_ret
      exact ⟨⟨-1, rfl, by rw [HY.out]; rfl⟩, HB.out⟩
set_option maxHeartbeats 4000000 in
theorem containsC_ (A0 : Option Addr) (c0 : Nat) (l0 : List S71) (g : Nat) (lb : Array Value) (p : S71 → Bool) (w : World) (hr0 : Kd.C k71 w A0 l0.length l0) (hc0 : l0.length ≤ c0) (eg : ∀ args w, (callFunc g args).run Tryd.prog w = .ok (.enter g args) w)
    (hf : Tells_ argC_ w g lb p l0) : Calls Tryd.prog 109 #[.slice A0 l0.length c0, .func (.func g) #[] lb] w fun e w' => e = .returned (.bool (l0.any p)) ∧ Below w.heap.size w w' := by
  have HI := Aside0.mk (indexC_ A0 c0 l0 g lb p w hr0 hc0 eg hf)
  clear hr0 hf
  go_enter Tryd.func109, Tryd.ntmps109
  go_wp2_with (go_at_call 132; refine HI.out.mono ?_; rintro e w' ⟨⟨i, rfl, hi⟩, hb⟩; have HB := Aside0.mk hb; have HD := Aside0.mk hi; clear hb hi)
  go_ret
  exact ⟨by rw [HD.out]; rfl, HB.out⟩
theorem midC_ (A : Option Addr) (l : List S71) (c p q : Nat) (hp : p ≤ q) (hq : q ≤ l.length) (hc : l.length ≤ c) : ∃ (A1 : Option Addr) (c1 : Nat), (∀ W : World, (Instr.slice 36 (.slice A l.length c) (some (.int .i64 (p : Int))) (some (.int .i64 (q : Int))) none).run Tryd.prog W = .ok (.slice A1 (q - p) c1) W) ∧ ((l.take q).drop p).length ≤ c1 ∧ ∀ w : World, Kd.C k71 w A l.length l → Kd.C k71 w A1 ((l.take q).drop p).length ((l.take q).drop p) := by
  obtain ⟨i, hi, hsz⟩ := infoC_
  have hl : ((l.take q).drop p).length = q - p := by rw [List.length_drop, List.length_take]; omega
  refine ⟨if c = p then A else A.map (·.add (p * 3)), c - p, fun W => ?_, by rw [hl]; omega, fun w h => ?_⟩
  · have h := cut_mid (P := Tryd.prog) 36 71 .i64 .i64 Tryd.underlying36 hi 3 hsz A l.length c (p : Int) (q : Int) (by omega) (by omega) (by omega) hc W
    rwa [Int.toNat_natCast, Int.toNat_natCast] at h
  · exact Kd.C_mid h hp hq hc

end Go.Proofs.YtgdpknmffohhaaaDoor.Pr

namespace Go.Proofs.YtgdpknmffohhaaaDoor.Pr
open Go.RowKit Go.Proofs.YtgdpknmffohhaaaDoorW.PrintWords Go.Proofs.YtgdpknmffohhaaaDoorW.PrintLast Go.Proofs.YtgdpknmffohhaaaDoorW.PrintMore
attribute [local go_sem] max2_int min2_int max_two min_two max_three min_three max_four min_four   -- for this text's walks alone
set_option linter.unusedVariables false
set_option linter.unusedSimpArgs false

/-! ### cells_All: function 61 (given) -/
set_option maxRecDepth 100000 in
set_option maxHeartbeats 4000000 in
theorem allOne_ (w : World) (b : Nat) (bits : Int) (x : S71) (h : w.cell? ⟨b, 0, none⟩ = some (.int .i64 bits)) :
    Calls Tryd.prog 110 #[argC_ x, .pointer (some ⟨b, 0, none⟩)] w fun e w' => e = .returned (.bool (Go.bits .and .i64 x.f1 bits != bits)) ∧ Below w.heap.size w w' := by
  have hu30 := Tryd.underlying71
  unfold argC_
  have h2 : ∀ o : Obj, (w.alloc o).cell? ⟨b, 0, none⟩ = some (.int .i64 bits) := fun o => cell_alloc_ o h
  go_enter Tryd.func110, Tryd.ntmps110
  go_wp2
  go_ret
  exact ⟨rfl, below_alloc (Below.refl _ _) _⟩
def cells_All.f (l0 : List S71) (a1 a2 a3 : Int) : Option Bool := some (if spanned_ l0 a1 a2 then (if a1 = a2 then false else !(((l0.take a2.toNat).drop a1.toNat).any fun x => Go.bits .and .i64 x.f1 a3 != a3)) else false)
set_option maxRecDepth 100000 in
set_option maxHeartbeats 4000000 in
theorem cells_All.calls (A0 : Option Addr) (c0 : Nat) (l0 : List (S71)) (a1 : Int) (a2 : Int) (a3 : Int) (r : Bool) (w : World) (hr0 : Kd.C k71 w A0 l0.length l0) (hc0 : l0.length ≤ c0) (h : cells_All.f l0 a1 a2 a3 = some r) :
    Calls Tryd.prog 61 #[.slice A0 l0.length c0, .int .i64 a1, .int .i64 a2, .int .i64 a3] w fun e w' => e = .returned (.bool r) ∧ Below w.heap.size w w' := by
  have hlen : l0.length ≤ 9223372036854775807 := hr0.2.1
  have hu30 := Tryd.underlying71
  unfold cells_All.f at h
  obtain rfl := Option.some.inj h
  clear h
  have hr1 := Kd.C_alloc hr0 (.cells #[.int .i64 a3] 3)
  have HCb := Aside0.mk (cell_new_ w (.int .i64 a3) 3)
  by_cases hs : spanned_ l0 a1 a2
  · have A6 := Aside0.mk (span_yes_ hs)
    rw [if_pos hs]
    obtain ⟨hs0, hs1, hs2⟩ := hs
    obtain ⟨p, rfl⟩ := Int.eq_ofNat_of_zero_le hs0
    obtain ⟨q, rfl⟩ := Int.eq_ofNat_of_zero_le (show 0 ≤ a2 by omega)
    rw [Int.toNat_natCast, Int.toNat_natCast]
    obtain ⟨A1, c1, q2, hc1, hC1⟩ := midC_ A0 l0 c0 p q (by omega) (by omega) hc0
    have HC1 := Aside0.mk (hC1 _ hr1)
    have HR1 := Aside0.mk hr1
    clear hC1 hr0 hr1
    have eg : ∀ args w, (callFunc 110 args).run Tryd.prog w = .ok (.enter 110 args) w := enters_of Tryd.func110 (by kernel_rfl) rfl
    have hl : ((l0.take q).drop p).length = q - p := by rw [List.length_drop, List.length_take]; omega
    have HK := Aside0.mk (fun nd : Nat => hl ▸ containsC_ A1 c1 ((l0.take q).drop p) 110 #[.pointer (some ⟨w.heap.size, 0, none⟩)] (fun x => Go.bits .and .i64 x.f1 a3 != a3) ((w.alloc (.cells #[.int .i64 a3] 3)).drewN nd) (Kd.C_drewN HC1.out nd) hc1 eg
      (fun x _ W hW => (allOne_ W w.heap.size a3 x ((hW.cell (World.block_lt_of_cell? _ _ HCb.out)).trans HCb.out))))
    by_cases he : (p : Int) = (q : Int)
    · rw [if_pos he]
      obtain rfl : p = q := by omega
      clear he
      have he0 : ((p : Int) == (p : Int)) = true := beq_iff_eq.mpr rfl
      go_enter Tryd.func61, Tryd.ntmps61
      go_wp2_with (go_at_call 108; refine (cells_span.calls _ _ l0 _ _ true _ HR1.out hc0 A6.out).mono ?_; rintro e w' ⟨rfl, ⟨nd, rfl⟩⟩)
      go_ret
      exact ⟨rfl, pw_below_drewN (below_alloc (Below.refl _ _) (.cells #[.int .i64 a3] 3)) _⟩
    · rw [if_neg he]
      have he0 : ((p : Int) == (q : Int)) = false := beq_eq_false_iff_ne.mpr he
      clear he
      go_enter Tryd.func61, Tryd.ntmps61
      go_wp2_with (first | (go_at_call 108; refine (cells_span.calls _ _ l0 _ _ true _ HR1.out hc0 A6.out).mono ?_; rintro e w' ⟨rfl, ⟨nd, rfl⟩⟩) | (go_at_call 109; refine (HK.out _).mono ?_; rintro e w' ⟨rfl, hb⟩; have HB' := Aside0.mk hb; clear hb))
      go_ret
      exact ⟨rfl, (pw_below_drewN (below_alloc (Below.refl _ _) (.cells #[.int .i64 a3] 3)) _).trans (HB'.out.mono (by simp))⟩
  · have A6 := Aside0.mk (span_no_ hs)
    rw [if_neg hs]
    have HR1 := Aside0.mk hr1
    go_enter Tryd.func61, Tryd.ntmps61
    go_wp2_with (go_at_call 108; refine (cells_span.calls _ _ l0 _ _ false _ HR1.out hc0 A6.out).mono ?_; rintro e w' ⟨rfl, ⟨nd, rfl⟩⟩)
    go_ret
    exact ⟨rfl, pw_below_drewN (below_alloc (Below.refl _ _) (.cells #[.int .i64 a3] 3)) _⟩

end Go.Proofs.YtgdpknmffohhaaaDoor.Pr

namespace Go.Proofs.YtgdpknmffohhaaaDoor.Pr
open Go.RowKit Go.Proofs.YtgdpknmffohhaaaDoorW.PrintWords Go.Proofs.YtgdpknmffohhaaaDoorW.PrintLast Go.Proofs.YtgdpknmffohhaaaDoorW.PrintMore
attribute [local go_sem] max2_int min2_int max_two min_two max_three min_three max_four min_four   -- for this text's walks alone
set_option linter.unusedVariables false
set_option linter.unusedSimpArgs false

/-! ### cells_Some: function 63 (given) -/
set_option maxRecDepth 100000 in
set_option maxHeartbeats 4000000 in
theorem someOne_ (w : World) (b : Nat) (bits : Int) (x : S71) (h : w.cell? ⟨b, 0, none⟩ = some (.int .i64 bits)) :
    Calls Tryd.prog 111 #[argC_ x, .pointer (some ⟨b, 0, none⟩)] w fun e w' => e = .returned (.bool (Go.bits .and .i64 x.f1 bits != 0)) ∧ Below w.heap.size w w' := by
  have hu30 := Tryd.underlying71
  unfold argC_
  have h2 : ∀ o : Obj, (w.alloc o).cell? ⟨b, 0, none⟩ = some (.int .i64 bits) := fun o => cell_alloc_ o h
  go_enter Tryd.func111, Tryd.ntmps111
  go_wp2
  go_ret
  exact ⟨rfl, below_alloc (Below.refl _ _) _⟩
def cells_Some.f (l0 : List S71) (a1 a2 a3 : Int) : Option Bool := some (if spanned_ l0 a1 a2 then (((l0.take a2.toNat).drop a1.toNat).any fun x => Go.bits .and .i64 x.f1 a3 != 0) else false)
set_option maxRecDepth 100000 in
set_option maxHeartbeats 4000000 in
theorem cells_Some.calls (A0 : Option Addr) (c0 : Nat) (l0 : List (S71)) (a1 : Int) (a2 : Int) (a3 : Int) (r : Bool) (w : World) (hr0 : Kd.C k71 w A0 l0.length l0) (hc0 : l0.length ≤ c0) (h : cells_Some.f l0 a1 a2 a3 = some r) :
    Calls Tryd.prog 63 #[.slice A0 l0.length c0, .int .i64 a1, .int .i64 a2, .int .i64 a3] w fun e w' => e = .returned (.bool r) ∧ Below w.heap.size w w' := by
  have hlen : l0.length ≤ 9223372036854775807 := hr0.2.1
  have hu30 := Tryd.underlying71
  unfold cells_Some.f at h
  obtain rfl := Option.some.inj h
  clear h
  have hr1 := Kd.C_alloc hr0 (.cells #[.int .i64 a3] 3)
  have HCb := Aside0.mk (cell_new_ w (.int .i64 a3) 3)
  by_cases hs : spanned_ l0 a1 a2
  · have A6 := Aside0.mk (span_yes_ hs)
    rw [if_pos hs]
    obtain ⟨hs0, hs1, hs2⟩ := hs
    obtain ⟨p, rfl⟩ := Int.eq_ofNat_of_zero_le hs0
    obtain ⟨q, rfl⟩ := Int.eq_ofNat_of_zero_le (show 0 ≤ a2 by omega)
    rw [Int.toNat_natCast, Int.toNat_natCast]
    obtain ⟨A1, c1, q2, hc1, hC1⟩ := midC_ A0 l0 c0 p q (by omega) (by omega) hc0
    have HC1 := Aside0.mk (hC1 _ hr1)
    have HR1 := Aside0.mk hr1
    clear hC1 hr0 hr1
    have eg : ∀ args w, (callFunc 111 args).run Tryd.prog w = .ok (.enter 111 args) w := enters_of Tryd.func111 (by kernel_rfl) rfl
    have hl : ((l0.take q).drop p).length = q - p := by rw [List.length_drop, List.length_take]; omega
    have HK := Aside0.mk (fun nd : Nat => hl ▸ containsC_ A1 c1 ((l0.take q).drop p) 111 #[.pointer (some ⟨w.heap.size, 0, none⟩)] (fun x => Go.bits .and .i64 x.f1 a3 != 0) ((w.alloc (.cells #[.int .i64 a3] 3)).drewN nd) (Kd.C_drewN HC1.out nd) hc1 eg
      (fun x _ W hW => (someOne_ W w.heap.size a3 x ((hW.cell (World.block_lt_of_cell? _ _ HCb.out)).trans HCb.out))))
    go_enter Tryd.func63, Tryd.ntmps63
    go_wp2_with (first | (go_at_call 108; refine (cells_span.calls _ _ l0 _ _ true _ HR1.out hc0 A6.out).mono ?_; rintro e w' ⟨rfl, ⟨nd, rfl⟩⟩) | (go_at_call 109; refine (HK.out _).mono ?_; rintro e w' ⟨rfl, hb⟩; have HB' := Aside0.mk hb; clear hb))
    go_ret
    exact ⟨rfl, (pw_below_drewN (below_alloc (Below.refl _ _) (.cells #[.int .i64 a3] 3)) _).trans (HB'.out.mono (by simp))⟩
  · have A6 := Aside0.mk (span_no_ hs)
    rw [if_neg hs]
    have HR1 := Aside0.mk hr1
    go_enter Tryd.func63, Tryd.ntmps63
    go_wp2_with (go_at_call 108; refine (cells_span.calls _ _ l0 _ _ false _ HR1.out hc0 A6.out).mono ?_; rintro e w' ⟨rfl, ⟨nd, rfl⟩⟩)
    go_ret
    exact ⟨rfl, pw_below_drewN (below_alloc (Below.refl _ _) (.cells #[.int .i64 a3] 3)) _⟩

end Go.Proofs.YtgdpknmffohhaaaDoor.Pr

namespace Go.Proofs.YtgdpknmffohhaaaDoor.Pr
open Go.RowKit Go.Proofs.YtgdpknmffohhaaaDoorW.PrintWords Go.Proofs.YtgdpknmffohhaaaDoorW.PrintLast Go.Proofs.YtgdpknmffohhaaaDoorW.PrintMore
attribute [local go_sem] max2_int min2_int max_two min_two max_three min_three max_four min_four   -- for this text's walks alone
set_option linter.unusedVariables false
set_option linter.unusedSimpArgs false

theorem eqA71 (d : Nat) (w : World) (x0 y0 : Int) (x1 y1 : Int) (x2 y2 : ByteArray) :
    (Op.equalIn (d + 2) 71 (.agg #[.int .i32 x0, .int .i64 x1, .string x2]) (.agg #[.int .i32 y0, .int .i64 y1, .string y2])).run Tryd.prog w = .ok (x0 == y0 && (x1 == y1 && (x2.toList == y2.toList))) w := by
  refine eqA_of Tryd.underlying71 (by kernel_rfl) ?_
  refine eqf_cons (by rfl) (by go_simp; rfl) (by go_simp; rfl) (by go_simp) ?_
  refine eqf_cons (by rfl) (by go_simp; rfl) (by go_simp; rfl) (by go_simp) ?_
  exact eqf_last (by rfl) (by go_simp; rfl) (by go_simp; rfl) (by go_simp)
end Go.Proofs.YtgdpknmffohhaaaDoor.Pr

namespace Go.Proofs.YtgdpknmffohhaaaDoor.Pr
open Go.RowKit Go.Proofs.YtgdpknmffohhaaaDoorW.PrintWords Go.Proofs.YtgdpknmffohhaaaDoorW.PrintLast Go.Proofs.YtgdpknmffohhaaaDoorW.PrintMore
attribute [local go_sem] max2_int min2_int max_two min_two max_three min_three max_four min_four   -- for this text's walks alone
set_option linter.unusedVariables false
set_option linter.unusedSimpArgs false

attribute [local go_sem high] eqA71
/-! ### slices_Equal_Cell: function 112 -/
def slices_Equal_Cell.l0 : Nat → List (S71) → List (S71) → Int → Int → Option (Bool)
  | 0, _, _, _, _ => none
  | k + 1, x0, x1, x12, x13 => if x13 < x12 then (if 0 ≤ x13 then (if x13 < (x0.length : Int) then (if x13 < (x1.length : Int) then (if (!(((rd_T71 x0 x13).f0) == ((rd_T71 x1 x13).f0)) || (!(((rd_T71 x0 x13).f1) == ((rd_T71 x1 x13).f1)) || (!((((rd_T71 x0 x13).f2).toList) == (((rd_T71 x1 x13).f2).toList))))) = true then (some false) else (slices_Equal_Cell.l0 k x0 x1 x12 (wrap64 (x13 + 1)))) else (none)) else (none)) else (none)) else (some true)
def slices_Equal_Cell.f (k : Nat) (l0 : List (S71)) (l1 : List (S71)) : Option (Bool) := if (l0.length : Int) = (l1.length : Int) then (slices_Equal_Cell.l0 k l0 l1 (l0.length : Int) 0) else (some false)
theorem slices_Equal_Cell.mono_l : ∀ k, (∀ y0 y1 y2 y3, LeO (slices_Equal_Cell.l0 k y0 y1 y2 y3) (slices_Equal_Cell.l0 (k + 1) y0 y1 y2 y3))
  | 0 => fun _ _ _ _ r h => by simp [slices_Equal_Cell.l0] at h
  | k + 1 => by
    have ih0 := slices_Equal_Cell.mono_l k
    · intro y0 y1 y2 y3
      unfold slices_Equal_Cell.l0
      repeat' first
      | (with_reducible exact ih0 _ _ _ _)
      | (with_reducible exact LeO.refl _)
      | (with_reducible exact LeO.none _)
      | (with_reducible refine LeO.ite ?_ ?_)
      | (with_reducible refine LeO.bind ?_ (fun _ => ?_))
      | exact ih0 _ _ _ _
      | exact LeO.none _
      | refine LeO.ite ?_ ?_
      | refine LeO.bind ?_ (fun _ => ?_)
theorem slices_Equal_Cell.mono : ∀ a0 a1 k, LeO (slices_Equal_Cell.f k a0 a1) (slices_Equal_Cell.f (k + 1) a0 a1) := by
  intro a0 a1 k
  have ih0 := slices_Equal_Cell.mono_l k
  unfold slices_Equal_Cell.f
  repeat' first
      | (with_reducible exact ih0 _ _ _ _)
      | (with_reducible exact LeO.refl _)
      | (with_reducible exact LeO.none _)
      | (with_reducible refine LeO.ite ?_ ?_)
      | (with_reducible refine LeO.bind ?_ (fun _ => ?_))
      | exact ih0 _ _ _ _
      | exact LeO.none _
      | refine LeO.ite ?_ ?_
      | refine LeO.bind ?_ (fun _ => ?_)
set_option maxHeartbeats 8000000 in
set_option maxRecDepth 100000 in
theorem slices_Equal_Cell.calls (k : Nat) (A0 : Option Addr) (c0 : Nat) (l0 : List (S71)) (A1 : Option Addr) (c1 : Nat) (l1 : List (S71)) (r : Bool) (w : World) (hr0 : Kd.C k71 w A0 l0.length l0) (hc0 : l0.length ≤ c0) (hr1 : Kd.C k71 w A1 l1.length l1) (hc1 : l1.length ≤ c1) (h : slices_Equal_Cell.f k l0 l1 = some r) :
    Calls Tryd.prog 112 #[.slice A0 l0.length c0, .slice A1 l1.length c1] w fun e w' => e = .returned (.bool r) ∧ Drawn0 w w' := by
  have hu71 := Tryd.underlying71
  have HR0 := Aside0.mk hr0
  have HC0 := Aside0.mk hc0
  clear hr0 hc0
  have HR1 := Aside0.mk hr1
  have HC1 := Aside0.mk hc1
  clear hr1 hc1
  have H : (if (l0.length : Int) = (l1.length : Int) then (slices_Equal_Cell.l0 k l0 l1 (l0.length : Int) 0) else (some false)) = some r := h
  clear h
  by_cases c3 : (l0.length : Int) = (l1.length : Int)
  · rw [if_pos c3] at H
    have c3b0 : ((l0.length : Int) == (l1.length : Int)) = true := beq_iff_eq.mpr c3
    have c3b1 : ((l0.length : Int) != (l1.length : Int)) = false := bne_eq_false_iff_eq.mpr c3
    have c3b2 : (l0.length == l1.length) = true := by first | simpa using c3 | (simp at c3 ⊢; omega)
    clear c3
    have H' := Aside0.mk H
    clear H
    go_enter Tryd.func112, Tryd.ntmps112
    go_wp2
    repeat (go_quiet (fail); try go_wp2)
    go_loopg [13] k (fun kq v13 w' => ∃ (x13_1 : Int), v13 = .int .i64 x13_1 ∧ Aside0 (slices_Equal_Cell.l0 kq l0 l1 (l0.length : Int) x13_1 = some r) ∧ Aside0 (kq ≤ k) ∧ Drawn0 w w')
    case atStart => exact ⟨(0), (by first | rfl | (simp; done) | (simp [*]; done)), H', ⟨Nat.le_refl _⟩, by repeat (first | exact Drawn0.refl _ | apply Drawn0.step)⟩
    case round =>
      clear H'
      try clear c1
      try clear p2
      try clear c3
      try clear c3b0
      try clear c3b1
      try clear c3b2
      obtain ⟨x13_1, rfl, HA, HK1, ⟨m1, rfl⟩⟩ := hrel
      cases gk with
      | zero => exact absurd HA.out (by simp [slices_Equal_Cell.l0])
      | succ k1 =>
        have H := HA.out
        clear HA
        simp only [slices_Equal_Cell.l0] at H
        by_cases c4 : x13_1 < (l0.length : Int)
        · rw [if_pos c4] at H
          have c4b0 : decide (x13_1 < (l0.length : Int)) = true := decide_eq_true c4
          clear c4
          by_cases c5 : 0 ≤ x13_1
          · rw [if_pos c5] at H
            have c5b0 : decide (0 ≤ x13_1) = true := decide_eq_true c5
            clear c5
            by_cases c6 : x13_1 < (l0.length : Int)
            · rw [if_pos c6] at H
              have c6b0 : decide (x13_1 < (l0.length : Int)) = true := decide_eq_true c6
              clear c6
              by_cases c7 : x13_1 < (l1.length : Int)
              · rw [if_pos c7] at H
                have c7b0 : decide (x13_1 < (l1.length : Int)) = true := decide_eq_true c7
                clear c7
                by_cases c8 : (!(((rd_T71 l0 x13_1).f0) == ((rd_T71 l1 x13_1).f0)) || (!(((rd_T71 l0 x13_1).f1) == ((rd_T71 l1 x13_1).f1)) || (!((((rd_T71 l0 x13_1).f2).toList) == (((rd_T71 l1 x13_1).f2).toList))))) = true
                · rw [if_pos c8] at H
                  have c8b0 : (!(((rd_T71 l0 x13_1).f0) == ((rd_T71 l1 x13_1).f0)) || (!(((rd_T71 l0 x13_1).f1) == ((rd_T71 l1 x13_1).f1)) || (!((((rd_T71 l0 x13_1).f2).toList) == (((rd_T71 l1 x13_1).f2).toList))))) = true := c8
                  clear c8
                  obtain rfl := Option.some.inj H
                  have p148 : 0 ≤ (x13_1 : Int) := of_decide_eq_true (by first | (with_reducible assumption) | assumption)
                  have q148 : x13_1 < (l0.length : Int) := of_decide_eq_true (by first | (with_reducible assumption) | assumption)
                  obtain ⟨ad148, e148, hx148_0, hx148_1, hx148_2⟩ := at_T71 HR0.out x13_1 p148 q148
                  cases e148
                  replace p148 := eq_true p148
                  replace q148 := eq_true q148
                  have p149 : 0 ≤ (x13_1 : Int) := of_decide_eq_true (by first | (with_reducible assumption) | assumption)
                  have q149 : x13_1 < (l1.length : Int) := of_decide_eq_true (by first | (with_reducible assumption) | assumption)
                  obtain ⟨ad149, e149, hx149_0, hx149_1, hx149_2⟩ := at_T71 HR1.out x13_1 p149 q149
                  cases e149
                  replace p149 := eq_true p149
                  replace q149 := eq_true q149
                  go_wp2
                  repeat (go_quiet (fail); try go_wp2)
                  go_ret
                  exact ⟨by first | rfl | (simp; done) | (simp [*]; done), by repeat (first | exact Drawn0.refl _ | apply Drawn0.step)⟩
                · rw [if_neg c8] at H
                  have c8b0 : (!(((rd_T71 l0 x13_1).f0) == ((rd_T71 l1 x13_1).f0)) || (!(((rd_T71 l0 x13_1).f1) == ((rd_T71 l1 x13_1).f1)) || (!((((rd_T71 l0 x13_1).f2).toList) == (((rd_T71 l1 x13_1).f2).toList))))) = false := by simpa using c8
                  clear c8
                  have H' := Aside0.mk H
                  clear H
                  have p148 : 0 ≤ (x13_1 : Int) := of_decide_eq_true (by first | (with_reducible assumption) | assumption)
                  have q148 : x13_1 < (l0.length : Int) := of_decide_eq_true (by first | (with_reducible assumption) | assumption)
                  obtain ⟨ad148, e148, hx148_0, hx148_1, hx148_2⟩ := at_T71 HR0.out x13_1 p148 q148
                  cases e148
                  replace p148 := eq_true p148
                  replace q148 := eq_true q148
                  have p149 : 0 ≤ (x13_1 : Int) := of_decide_eq_true (by first | (with_reducible assumption) | assumption)
                  have q149 : x13_1 < (l1.length : Int) := of_decide_eq_true (by first | (with_reducible assumption) | assumption)
                  obtain ⟨ad149, e149, hx149_0, hx149_1, hx149_2⟩ := at_T71 HR1.out x13_1 p149 q149
                  cases e149
                  replace p149 := eq_true p149
                  replace q149 := eq_true q149
                  go_wp2
                  repeat (go_quiet (fail); try go_wp2)
                  go_roundg k1
                  case measure => have := HK1.out; omega
                  case rel => exact ⟨(wrap64 (x13_1 + 1)), (by first | rfl | (simp; done) | (simp [*]; done)), H', ⟨by have := HK1.out; omega⟩, by repeat (first | exact Drawn0.refl _ | apply Drawn0.step)⟩
              · rw [if_neg c7] at H
                exact absurd H (by simp)
            · rw [if_neg c6] at H
              exact absurd H (by simp)
          · rw [if_neg c5] at H
            exact absurd H (by simp)
        · rw [if_neg c4] at H
          have c4b0 : decide (x13_1 < (l0.length : Int)) = false := decide_eq_false c4
          clear c4
          obtain rfl := Option.some.inj H
          go_wp2
          repeat (go_quiet (fail); try go_wp2)
          go_ret
          exact ⟨by first | rfl | (simp; done) | (simp [*]; done), by repeat (first | exact Drawn0.refl _ | apply Drawn0.step)⟩
  · rw [if_neg c3] at H
    have c3b0 : ((l0.length : Int) == (l1.length : Int)) = false := beq_eq_false_iff_ne.mpr c3
    have c3b1 : ((l0.length : Int) != (l1.length : Int)) = true := bne_iff_ne.mpr c3
    have c3b2 : (l0.length == l1.length) = false := by first | simpa using c3 | (simp at c3 ⊢; omega)
    obtain rfl := Option.some.inj H
    go_enter Tryd.func112, Tryd.ntmps112
    go_wp2
    repeat (go_quiet (fail); try go_wp2)
    go_ret
    exact ⟨by first | rfl | (simp; done) | (simp [*]; done), by repeat (first | exact Drawn0.refl _ | apply Drawn0.step)⟩

end Go.Proofs.YtgdpknmffohhaaaDoor.Pr

namespace Go.Proofs.YtgdpknmffohhaaaDoor.Pr
open Go.RowKit Go.Proofs.YtgdpknmffohhaaaDoorW.PrintWords Go.Proofs.YtgdpknmffohhaaaDoorW.PrintLast Go.Proofs.YtgdpknmffohhaaaDoorW.PrintMore
attribute [local go_sem] max2_int min2_int max_two min_two max_three min_three max_four min_four   -- for this text's walks alone
set_option linter.unusedVariables false
set_option linter.unusedSimpArgs false

/-! ### cells_Same: function 65 -/
def cells_Same.f (k : Nat) (l0 : List (S71)) (l1 : List (S71)) : Option (Bool) := (slices_Equal_Cell.f k l0 l1).bind fun t150 => (some t150)
theorem cells_Same.mono : ∀ a0 a1 k, LeO (cells_Same.f k a0 a1) (cells_Same.f (k + 1) a0 a1) := by
  intro a0 a1 k
  unfold cells_Same.f
  repeat' first
      | (with_reducible exact slices_Equal_Cell.mono _ _ _)
      | (with_reducible exact LeO.refl _)
      | (with_reducible exact LeO.none _)
      | (with_reducible refine LeO.ite ?_ ?_)
      | (with_reducible refine LeO.bind ?_ (fun _ => ?_))
      | exact slices_Equal_Cell.mono _ _ _
      | exact LeO.none _
      | refine LeO.ite ?_ ?_
      | refine LeO.bind ?_ (fun _ => ?_)
set_option maxHeartbeats 8000000 in
set_option maxRecDepth 100000 in
theorem cells_Same.calls (k : Nat) (A0 : Option Addr) (c0 : Nat) (l0 : List (S71)) (A1 : Option Addr) (c1 : Nat) (l1 : List (S71)) (r : Bool) (w : World) (hr0 : Kd.C k71 w A0 l0.length l0) (hc0 : l0.length ≤ c0) (hr1 : Kd.C k71 w A1 l1.length l1) (hc1 : l1.length ≤ c1) (h : cells_Same.f k l0 l1 = some r) :
    Calls Tryd.prog 65 #[.slice A0 l0.length c0, .slice A1 l1.length c1] w fun e w' => e = .returned (.bool r) ∧ Drawn0 w w' := by
  have HR0 := Aside0.mk hr0
  have HC0 := Aside0.mk hc0
  clear hr0 hc0
  have HR1 := Aside0.mk hr1
  have HC1 := Aside0.mk hc1
  clear hr1 hc1
  have H : ((slices_Equal_Cell.f k l0 l1).bind fun t150 => (some t150)) = some r := h
  clear h
  replace H := Option.bind_eq_some_iff.mp H
  obtain ⟨t150, A30, H⟩ := H
  replace H : (some t150) = some r := H
  have A3 := Aside0.mk A30
  clear A30
  obtain rfl := Option.some.inj H
  go_enter Tryd.func65, Tryd.ntmps65
  go_wp2_with (first | ((with_reducible refine gate_callee (f := 112) rfl ?_); refine goesL_ (some 7) rfl rfl Tryd.func112 (by kernel_rfl) rfl #[.slice A0 l0.length c0, .slice A1 l1.length c1] rfl (by (try simp only [List.map_toArray, List.map_cons, List.map_nil]); first | done | rfl | (simp only [List.length_drop, List.length_take]; rfl)) ?_; (with_reducible refine (slices_Equal_Cell.calls k _ _ l0 _ _ l1 t150 _ ?side1 ?side2 ?side3 ?side4 A3.out).mono ?_); (case side1 => repeat (first | exact HR0.out | (with_reducible refine Kd.C_alloc ?_ _) | (with_reducible refine Kd.C_drewN ?_ _) | (with_reducible refine Kd.C_drew ?_))); (case side2 => exact HC0.out); (case side3 => repeat (first | exact HR1.out | (with_reducible refine Kd.C_alloc ?_ _) | (with_reducible refine Kd.C_drewN ?_ _) | (with_reducible refine Kd.C_drew ?_))); (case side4 => exact HC1.out); rintro e w' ⟨rfl, ⟨nd, rfl⟩⟩; refine ⟨_, rfl, ?_⟩))
  go_ret
  exact ⟨by first | rfl | (simp; done) | (simp [*]; done), by repeat (first | exact Drawn0.refl _ | apply Drawn0.step)⟩

end Go.Proofs.YtgdpknmffohhaaaDoor.Pr

namespace Go.Proofs.YtgdpknmffohhaaaDoor.Pr
open Go.RowKit Go.Proofs.YtgdpknmffohhaaaDoorW.PrintWords Go.Proofs.YtgdpknmffohhaaaDoorW.PrintLast Go.Proofs.YtgdpknmffohhaaaDoorW.PrintMore
attribute [local go_sem] max2_int min2_int max_two min_two max_three min_three max_four min_four   -- for this text's walks alone
set_option linter.unusedVariables false
set_option linter.unusedSimpArgs false

/-! ### chars_May: function 114 -/
def chars_May.f (k : Nat) (a0 : Int) : Option (Bool) := (chars_Class.f k a0).bind fun t151 => (some (decide (t151 > 1)))
theorem chars_May.mono : ∀ a0 k, LeO (chars_May.f k a0) (chars_May.f (k + 1) a0) := by
  intro a0 k
  unfold chars_May.f
  repeat' first
      | (with_reducible exact chars_Class.mono _ _)
      | (with_reducible exact LeO.refl _)
      | (with_reducible exact LeO.none _)
      | (with_reducible refine LeO.ite ?_ ?_)
      | (with_reducible refine LeO.bind ?_ (fun _ => ?_))
      | exact chars_Class.mono _ _
      | exact LeO.none _
      | refine LeO.ite ?_ ?_
      | refine LeO.bind ?_ (fun _ => ?_)
set_option maxHeartbeats 8000000 in
set_option maxRecDepth 100000 in
theorem chars_May.calls (k : Nat) (a0 : Int) (r : Bool) (w : World) (h : chars_May.f k a0 = some r) :
    Calls Tryd.prog 114 #[.int .i32 a0] w fun e w' => e = .returned (.bool r) ∧ Drawn0 w w' := by
  have H : ((chars_Class.f k a0).bind fun t151 => (some (decide (t151 > 1)))) = some r := h
  clear h
  replace H := Option.bind_eq_some_iff.mp H
  obtain ⟨t151, A20, H⟩ := H
  replace H : (some (decide (t151 > 1))) = some r := H
  have A2 := Aside0.mk A20
  clear A20
  obtain rfl := Option.some.inj H
  go_enter Tryd.func114, Tryd.ntmps114
  go_wp2_with (first | ((with_reducible refine gate_callee (f := 133) rfl ?_); refine goesL_ (some 4) rfl rfl Tryd.func133 (by kernel_rfl) rfl #[.int .i32 a0] rfl (by (try simp only [List.map_toArray, List.map_cons, List.map_nil]); first | done | rfl | (simp only [List.length_drop, List.length_take]; rfl)) ?_; (with_reducible refine (chars_Class.calls k a0 t151 _ A2.out).mono ?_); rintro e w' ⟨rfl, ⟨nd, rfl⟩⟩; refine ⟨_, rfl, ?_⟩))
  go_ret
  exact ⟨by first | rfl | (simp; done) | (simp [*]; done), by repeat (first | exact Drawn0.refl _ | apply Drawn0.step)⟩

end Go.Proofs.YtgdpknmffohhaaaDoor.Pr

namespace Go.Proofs.YtgdpknmffohhaaaDoor.Pr
open Go.RowKit Go.Proofs.YtgdpknmffohhaaaDoorW.PrintWords Go.Proofs.YtgdpknmffohhaaaDoorW.PrintLast Go.Proofs.YtgdpknmffohhaaaDoorW.PrintMore
attribute [local go_sem] max2_int min2_int max_two min_two max_three min_three max_four min_four   -- for this text's walks alone
set_option linter.unusedVariables false
set_option linter.unusedSimpArgs false

/-! ### attrs_Value: function 144 (given) -/
def mayR_ (c : Int) : Bool := decide (32 ≤ c ∧ c ≠ 127 ∧ (c < 55296 ∨ (57343 < c ∧ c ≤ 1114111)))
theorem class2_ (k : Nat) (c : Int) (b : Bool) : ∃ v, v > 1 ∧ chars_Class.j2 (k + 1) c b = some v := by
  simp only [chars_Class.j2]
  repeat' split
  all_goals exact ⟨_, by decide, rfl⟩
theorem class1_ (k : Nat) (c : Int) (b : Bool) : ∃ v, v > 1 ∧ chars_Class.j1 (k + 2) c b = some v := by
  simp only [chars_Class.j1]
  repeat' split
  · exact ⟨_, by decide, rfl⟩
  all_goals exact class2_ _ _ _
theorem class0_ (k : Nat) (c : Int) (b : Bool) : ∃ v, v > 1 ∧ chars_Class.j0 (k + 3) c b = some v := by
  simp only [chars_Class.j0]
  repeat' split
  · exact ⟨_, by decide, rfl⟩
  · exact ⟨_, by decide, rfl⟩
  all_goals exact class1_ _ _ _
theorem valid_is_ (c : Int) : utf8_ValidRune.f 20 c = some (decide (0 ≤ c ∧ (c < 55296 ∨ (57343 < c ∧ c ≤ 1114111)))) := by
  simp only [utf8_ValidRune.f, utf8_ValidRune.j0]
  by_cases h0 : 0 ≤ c
  · rw [if_pos h0]
    by_cases h1 : c < 55296
    · rw [decide_eq_true h1, if_pos rfl, decide_eq_true ⟨h0, .inl h1⟩]
    · rw [decide_eq_false h1, if_neg (by decide)]
      by_cases h2 : 57343 < c
      · rw [if_pos h2]
        by_cases h3 : c ≤ 1114111
        · rw [if_pos h3, decide_eq_true ⟨h0, .inr ⟨h2, h3⟩⟩]
        · rw [if_neg h3, decide_eq_false (by omega)]
      · rw [if_neg h2, decide_eq_false (by omega)]
  · rw [if_neg h0, if_neg (by decide)]
    by_cases h2 : 57343 < c
    · omega
    · rw [if_neg h2, decide_eq_false (by omega)]
theorem may_is_ (c : Int) : chars_May.f 20 c = some (mayR_ c) := by
  unfold chars_May.f chars_Class.f mayR_
  rw [valid_is_, Option.bind_some]
  by_cases hv : 0 ≤ c ∧ (c < 55296 ∨ (57343 < c ∧ c ≤ 1114111))
  · rw [decide_eq_true hv, if_pos rfl]
    by_cases h1 : c < 32
    · rw [if_pos h1, decide_eq_false (by omega)]
      rfl
    · rw [if_neg h1]
      by_cases h2 : c = 127
      · rw [if_pos h2, decide_eq_false (by omega)]
        rfl
      · rw [if_neg h2]
        have hy : decide (32 ≤ c ∧ c ≠ 127 ∧ (c < 55296 ∨ (57343 < c ∧ c ≤ 1114111))) = true := decide_eq_true ⟨by omega, h2, hv.2⟩
        rw [hy]
        by_cases h3 : c = 32
        · rw [if_pos h3]
          obtain ⟨v, h, e⟩ := class0_ 17 c (c == 32)
          rw [e, Option.bind_some, decide_eq_true h]
        · rw [if_neg h3]
          obtain ⟨v, h, e⟩ := class0_ 17 c (c == 160)
          rw [e, Option.bind_some, decide_eq_true h]
  · rw [decide_eq_false hv, if_neg (by decide), decide_eq_false (by omega)]
    rfl
def runesMay_ (s : ByteArray) : Nat → Nat → Bool
  | 0, _ => true
  | k + 1, pos => if pos < s.size then (if mayR_ ((Utf8.decode s pos).1 : Int) = true then runesMay_ s k (pos + (Utf8.decode s pos).2) else false) else true
def value_ (s : ByteArray) : Bool := runesMay_ s (s.size + 1) 0 && (decide (s.size ≤ 200) && Lib.validD s.data.toList)
set_option maxRecDepth 100000 in
set_option maxHeartbeats 4000000 in
theorem value_calls_ (s : ByteArray) (w : World) (hs : s.size ≤ 9223372036854775807) (hT : Lib.Utf8Tabs 0 1 w) :
    Calls Tryd.prog 144 #[.string s] w fun e w' => e = .returned (.bool (value_ s)) ∧ Below w.heap.size w w' := by
  obtain ⟨V, hV⟩ : ∃ V, runesMay_ s (s.size + 1) 0 = V := ⟨_, rfl⟩
  go_enter Tryd.func144, Tryd.ntmps144
  go_wp2
  go_loopg [2] (s.size + 1) (fun gk s2 wx => s2 = .bool false ∧ ∃ pos : Nat, wx.heap[w.heap.size]? = some (.stringIter s pos) ∧ Below w.heap.size w wx ∧ runesMay_ s gk pos = V ∧ pos ≤ s.size ∧ s.size < pos + gk)
  case atStart => exact ⟨rfl, 0, by simpa using World.iter_heap w s 0, (Below.refl _ w).alloc (Nat.le_refl _) _, hV, Nat.zero_le _, by omega⟩
  case round =>
    obtain ⟨rfl, pos, hit, hbw, hR, hps, hfu⟩ := hrel
    obtain ⟨g', rfl⟩ : ∃ g', gk = g' + 1 := ⟨gk - 1, by omega⟩
    simp only [runesMay_] at hR
    by_cases hlt : pos < s.size
    · have hnx : ∀ ty, (Instr.next (.pointer (some ⟨w.heap.size, 0, none⟩)) true ty).run Tryd.prog wr = _ := fun ty => Lib.run_next_any_at wr w.heap.size s pos ty hit hlt
      rw [if_pos hlt] at hR
      have hwd := Lib.width_pos s pos
      have hrl := Lib.rune_le s pos
      have hlen : s.data.toList.length = s.size := (Lib.size_eq s).symm
      have hne : s.data.toList.drop pos ≠ [] := by
        intro h0
        have := congrArg List.length h0
        rw [List.length_drop, hlen] at this
        simp at this
        omega
      have hwn : pos + (Utf8.decode s pos).2 ≤ s.size := by
        have := Lib.decodeL_le _ hne
        rw [Lib.decodeL_drop, List.length_drop, hlen] at this
        omega
      clear hne hlen
      obtain ⟨R, hR'⟩ : ∃ R, (Utf8.decode s pos).1 = R := ⟨_, rfl⟩
      obtain ⟨K, hK⟩ : ∃ K, (Utf8.decode s pos).2 = K := ⟨_, rfl⟩
      rw [hR', hK] at hnx hR
      rw [hK] at hwd hwn
      rw [hR'] at hrl
      clear hR' hK
      have hit2 := Lib.iterAt_heap wr w.heap.size s pos (pos + K) hit
      have hbw2 := Lib.below_iterAt hbw (k := w.heap.size) (by omega) s (pos + K)
      obtain ⟨W, hWd⟩ : ∃ W, wr.iterAt w.heap.size s (pos + K) = W := ⟨_, rfl⟩
      rw [hWd] at hnx hit2 hbw2
      clear hWd hit hbw
      have HC := Aside0.mk (fun x => chars_May.calls 20 (R : Int) (mayR_ (R : Int)) x (may_is_ (R : Int)))
      have HR := Aside0.mk hR
      clear hR
      cases hm : mayR_ (R : Int) with
      | true =>
        rw [hm] at HC HR
        go_wp2_with (go_at_call 114; refine (HC.out _).mono ?_; rintro e w' ⟨rfl, ⟨nd, rfl⟩⟩)
        go_roundg g'
        case measure => omega
        case rel => exact ⟨rfl, pos + K, hit2, pw_below_drewN hbw2 nd, by simpa using HR.out, hwn, by omega⟩
      | false =>
        rw [hm] at HC HR
        have hVf : V = false := by have := HR.out; rw [if_neg (by decide)] at this; exact this.symm
        go_wp2_with (go_at_call 114; refine (HC.out _).mono ?_; rintro e w' ⟨rfl, ⟨nd, rfl⟩⟩)
        go_ret
        exact ⟨by unfold value_; rw [hV, hVf]; rfl, pw_below_drewN hbw2 nd⟩
    · have hnx : ∀ ty, (Instr.next (.pointer (some ⟨w.heap.size, 0, none⟩)) true ty).run Tryd.prog wr = _ := fun ty => Lib.run_next_end_at wr w.heap.size s pos ty hit hlt
      rw [if_neg hlt] at hR
      have HV := Aside0.mk (show value_ s = (decide (s.size ≤ 200) && Lib.validD s.data.toList) by unfold value_; rw [hV, ← hR]; rfl)
      have HT := Aside0.mk (show Lib.Utf8Tabs 0 1 wr from ⟨fun c hc => (hbw.cell (World.block_lt_of_cell? w _ (hT.1 c hc))).trans (hT.1 c hc), fun i hi => ⟨(hbw.cell (World.block_lt_of_cell? w _ (hT.2 i hi).1)).trans (hT.2 i hi).1, (hbw.cell (World.block_lt_of_cell? w _ (hT.2 i hi).2)).trans (hT.2 i hi).2⟩⟩)
      have HB := Aside0.mk hbw
      clear hR hbw hT hV
      by_cases h2 : (s.size : Int) ≤ 200
      · have h2b : decide ((s.size : Int) ≤ 200) = true := decide_eq_true h2
        have h2c : decide (s.size ≤ 200) = true := decide_eq_true (by omega)
        rw [h2c] at HV
        clear h2
        go_wp2_with (go_at_call 156; refine (Tryd.utf8_ValidString s _ hs HT.out).mono ?_; rintro e w' ⟨rfl, hb⟩; have HB2 := Aside0.mk hb; clear hb)
        go_ret
        exact ⟨by rw [HV.out]; rfl, HB.out.trans (HB2.out.mono HB.out.size)⟩
      · have h2b : decide ((s.size : Int) ≤ 200) = false := decide_eq_false h2
        have h2c : decide (s.size ≤ 200) = false := decide_eq_false (by omega)
        rw [h2c] at HV
        clear h2
        go_wp2
        go_ret
        exact ⟨by rw [HV.out]; rfl, HB.out⟩

end Go.Proofs.YtgdpknmffohhaaaDoor.Pr

namespace Go.Proofs.YtgdpknmffohhaaaDoor.Pr
open Go.RowKit Go.Proofs.YtgdpknmffohhaaaDoorW.PrintWords Go.Proofs.YtgdpknmffohhaaaDoorW.PrintLast Go.Proofs.YtgdpknmffohhaaaDoorW.PrintMore
attribute [local go_sem] max2_int min2_int max_two min_two max_three min_three max_four min_four   -- for this text's walks alone
set_option linter.unusedVariables false
set_option linter.unusedSimpArgs false

/-! ### attrs_Target: function 130 (given) -/
theorem tabs_below_ {g3 g4 : Nat} {w wr : World} (hT : Lib.Utf8Tabs g3 g4 w) (hbw : Below w.heap.size w wr) : Lib.Utf8Tabs g3 g4 wr :=
  ⟨fun c hc => (hbw.cell (World.block_lt_of_cell? w _ (hT.1 c hc))).trans (hT.1 c hc), fun i hi => ⟨(hbw.cell (World.block_lt_of_cell? w _ (hT.2 i hi).1)).trans (hT.2 i hi).1, (hbw.cell (World.block_lt_of_cell? w _ (hT.2 i hi).2)).trans (hT.2 i hi).2⟩⟩
def low_ (c : Int) : Int := if 65 ≤ c ∧ c ≤ 90 then c + 32 else c
set_option maxHeartbeats 4000000 in
theorem low_calls_ (c : Int) (hc : 0 ≤ c ∧ c ≤ 1114111) (w : World) : Calls Tryd.prog 143 #[.int .i32 c] w fun e w' => e = .returned (.int .i32 (low_ c)) ∧ Below w.heap.size w w' := by
  unfold low_
  by_cases h1 : 65 ≤ c
  · have h1b : decide (65 ≤ c) = true := decide_eq_true h1
    by_cases h2 : c ≤ 90
    · have h2b : decide (c ≤ 90) = true := decide_eq_true h2
      rw [if_pos ⟨h1, h2⟩]
      go_enter Tryd.func143, Tryd.ntmps143
      have hw : wrap32 (c + 32) = c + 32 := by unfold wrap32; omega
      go_wp2
      go_ret
      exact ⟨rfl, Below.refl _ _⟩
    · have h2b : decide (c ≤ 90) = false := decide_eq_false h2
      rw [if_neg (by omega)]
      go_enter Tryd.func143, Tryd.ntmps143
      go_wp2
      go_ret
      exact ⟨rfl, Below.refl _ _⟩
  · have h1b : decide (65 ≤ c) = false := decide_eq_false h1
    rw [if_neg (by omega)]
    go_enter Tryd.func143, Tryd.ntmps143
    go_wp2
    go_ret
    exact ⟨rfl, Below.refl _ _⟩
theorem low_fits_ (x : Nat) (h : x ≤ 1114111) : -2147483648 ≤ low_ x ∧ low_ x ≤ 2147483647 := by
  unfold low_
  split <;> omega
def head_ (s : ByteArray) : ByteArray := ⟨(Lib.cut s.data.toList [58]).1.toArray⟩
def lowed_ (s : ByteArray) : ByteArray := ⟨(Lib.mapD low_ (head_ s).data.toList).toArray⟩
def script_ (s : ByteArray) : Bool := (lowed_ s).toList == [106, 97, 118, 97, 115, 99, 114, 105, 112, 116]
def ends_ (s : ByteArray) : Bool := if h : 0 < s.size then (decide (¬ ((s[0]'h).toNat : Int) = 32) && decide (¬ ((s[s.size - 1]'(by omega)).toNat : Int) = 32)) else false
def target_ (s : ByteArray) : Bool := value_ s && (ends_ s && !script_ s)
theorem empty_size_ (s : ByteArray) (h : s.toList = []) : s.size = 0 := by
  rw [ByteArray.toList_eq] at h
  rw [← data_length, h]
  rfl
theorem size_empty_ (s : ByteArray) (h : s.size = 0) : s.toList = [] := by
  rw [ByteArray.toList_eq]
  exact List.eq_nil_of_length_eq_zero (by rw [data_length, h])
theorem head_size_ (s : ByteArray) : (head_ s).size ≤ s.size := by
  rw [← data_length, ← data_length]
  unfold head_ Lib.cut
  split
  · simp
    omega
  · simp
set_option maxRecDepth 100000 in
set_option maxHeartbeats 4000000 in
theorem target_calls_ (s : ByteArray) (w : World) (m : Int) (hs : s.size < 4294967281) (hT : Lib.Utf8Tabs 0 1 w) (hm : w.cell? ⟨2, 0, none⟩ = some (.int .i64 m)) :
    Calls Tryd.prog 130 #[.string s] w fun e w' => e = .returned (.bool (target_ s)) ∧ Below w.heap.size w w' := by
  have hS : (head_ s).size < 35184372088832 := by have := head_size_ s; omega
  have hM : ∀ w, MapGrows Tryd.prog 143 #[] low_ w := fun w W x hx hb => low_calls_ x (by omega) W
  have HM := Aside0.mk (fun nd => (Tryd.strings_Map_grows 143 #[] (enters_of Tryd.func143 (by kernel_rfl) rfl) low_ (head_ s) (w.drewN nd) hS (hM _) low_fits_ hT).mono fun e w' (h : _ ∧ _) => (⟨h.1, (pw_below_drewN (Below.refl w.heap.size w) nd).trans h.2⟩ : e = .returned (.string (lowed_ s)) ∧ Below w.heap.size w w'))
  have HV := Aside0.mk (fun W (hW : Below w.heap.size w W) => value_calls_ s W (by omega) (tabs_below_ hT hW))
  clear hS hM hT
  unfold target_
  cases hb : value_ s with
  | false =>
    rw [hb] at HV
    clear hb
    go_enter Tryd.func130, Tryd.ntmps130
    go_wp2_with (first | (go_at_call 141; refine (Tryd.strings_Cut s ⟨#[58]⟩ m _ hs hm).mono ?_; rintro e w' ⟨rfl, ⟨nd, rfl⟩⟩) | (go_at_call 142; refine (HM.out _).mono ?_; rintro e w' ⟨rfl, hb⟩; have HB := Aside0.mk hb; clear hb) | (go_at_call 144; refine (HV.out _ HB.out).mono ?_; rintro e w' ⟨rfl, hb⟩; have HB2 := Aside0.mk hb; clear hb))
    go_ret
    exact ⟨rfl, HB.out.trans (HB2.out.mono HB.out.size)⟩
  | true =>
    rw [hb] at HV
    clear hb
    by_cases h0 : 0 < s.size
    · have hE := Aside0.mk (show ends_ s = (decide (¬ ((s[0]'h0).toNat : Int) = 32) && decide (¬ ((s[s.size - 1]'(by omega)).toNat : Int) = 32)) by unfold ends_; rw [dif_pos h0])
      go_enter Tryd.func130, Tryd.ntmps130
      go_wp2_with (first | (go_at_call 141; refine (Tryd.strings_Cut s ⟨#[58]⟩ m _ hs hm).mono ?_; rintro e w' ⟨rfl, ⟨nd, rfl⟩⟩) | (go_at_call 142; refine (HM.out _).mono ?_; rintro e w' ⟨rfl, hb⟩; have HB := Aside0.mk hb; clear hb) | (go_at_call 144; refine (HV.out _ HB.out).mono ?_; rintro e w' ⟨rfl, hb⟩; have HB2 := Aside0.mk hb; clear hb))
      · rename_i he
        exact absurd (empty_size_ s he) (by omega)
      · rename_i he h1
        go_ret
        exact ⟨by rw [hE.out, decide_eq_false (fun h => h h1)]; rfl, HB.out.trans (HB2.out.mono HB.out.size)⟩
      · rename_i he h1 hx h2
        go_ret
        exact ⟨by rw [hE.out, decide_eq_true h1, decide_eq_false (fun h => h h2)]; rfl, HB.out.trans (HB2.out.mono HB.out.size)⟩
      · rename_i he h1 hx h2
        go_ret
        exact ⟨by rw [hE.out]; simp [he, h1, h2, script_], HB.out.trans (HB2.out.mono HB.out.size)⟩
    · have hE := Aside0.mk (show ends_ s = false by unfold ends_; rw [dif_neg h0])
      have he := size_empty_ s (by omega)
      go_enter Tryd.func130, Tryd.ntmps130
      go_wp2_with (first | (go_at_call 141; refine (Tryd.strings_Cut s ⟨#[58]⟩ m _ hs hm).mono ?_; rintro e w' ⟨rfl, ⟨nd, rfl⟩⟩) | (go_at_call 142; refine (HM.out _).mono ?_; rintro e w' ⟨rfl, hb⟩; have HB := Aside0.mk hb; clear hb) | (go_at_call 144; refine (HV.out _ HB.out).mono ?_; rintro e w' ⟨rfl, hb⟩; have HB2 := Aside0.mk hb; clear hb))
      go_ret
      exact ⟨by rw [hE.out]; rfl, HB.out.trans (HB2.out.mono HB.out.size)⟩

end Go.Proofs.YtgdpknmffohhaaaDoor.Pr

namespace Go.Proofs.YtgdpknmffohhaaaDoor.Pr
open Go.RowKit Go.Proofs.YtgdpknmffohhaaaDoorW.PrintWords Go.Proofs.YtgdpknmffohhaaaDoorW.PrintLast Go.Proofs.YtgdpknmffohhaaaDoorW.PrintMore
attribute [local go_sem] max2_int min2_int max_two min_two max_three min_three max_four min_four   -- for this text's walks alone
set_option linter.unusedVariables false
set_option linter.unusedSimpArgs false

/-! ### cells_May: function 66 (given) -/
/-- what the text of the library reads of the program's variables -/
def Gl_ (w : World) : Prop := Lib.Utf8Tabs 0 1 w ∧ ∃ m, w.cell? ⟨2, 0, none⟩ = some (.int .i64 m)
theorem Gl_.below {w W : World} (h : Gl_ w) (hW : Below w.heap.size w W) : Gl_ W :=
  ⟨tabs_below_ h.1 hW, by obtain ⟨m, hm⟩ := h.2; exact ⟨m, (hW.cell (World.block_lt_of_cell? w _ hm)).trans hm⟩⟩
theorem Gl_.at_ {w W : World} (h : Aside0 (Gl_ w)) (hW : Aside0 (Below w.heap.size w W)) : Gl_ W := h.out.below hW.out
def link_ (s : ByteArray) : Bool := s.toList.isEmpty || target_ s
set_option maxHeartbeats 4000000 in
theorem link_calls_ (s : ByteArray) (w : World) (hs : s.size < 4294967281) (hG : Gl_ w) : Calls Tryd.prog 105 #[.string s] w fun e w' => e = .returned (.bool (link_ s)) ∧ Below w.heap.size w w' := by
  obtain ⟨hT, m, hm⟩ := hG
  have HT := Aside0.mk (target_calls_ s w m hs hT hm)
  clear hT hm
  unfold link_
  cases he : s.toList.isEmpty with
  | true =>
    have he2 : (s.toList == ([] : List UInt8)) = true := by simpa using he
    go_enter Tryd.func105, Tryd.ntmps105
    go_wp2
    go_ret
    exact ⟨by simp [he], Below.refl _ _⟩
  | false =>
    have he2 : (s.toList == ([] : List UInt8)) = false := by simpa using he
    go_enter Tryd.func105, Tryd.ntmps105
    go_wp2_with (go_at_call 130; refine HT.out.mono ?_; rintro e w' ⟨rfl, hb⟩; have HB := Aside0.mk hb; clear hb)
    go_ret
    exact ⟨by simp [he], HB.out⟩
def bad_ (x : S71) : Bool := (!(mayR_ x.f0) && x.f0 != 10) || (decide (x.f1 < 0) || (decide (15 < x.f1) || !(link_ x.f2)))
set_option maxRecDepth 100000 in
set_option maxHeartbeats 4000000 in
theorem bad_calls_ (x : S71) (w : World) (hs : x.f2.size < 4294967281) (hG : Gl_ w) : Calls Tryd.prog 113 #[argC_ x] w fun e w' => e = .returned (.bool (bad_ x)) ∧ Below w.heap.size w w' := by
  have hu30 := Tryd.underlying71
  have HL := Aside0.mk (fun W (hW : Below w.heap.size w W) => link_calls_ x.f2 W hs (hG.below hW))
  have HM := Aside0.mk (fun W => chars_May.calls 20 x.f0 (mayR_ x.f0) W (may_is_ x.f0))
  clear hG
  unfold argC_
  cases hm : mayR_ x.f0 with
  | true =>
    rw [hm] at HM
    go_enter Tryd.func113, Tryd.ntmps113
    go_wp2_with (first | (go_at_call 114; refine (HM.out _).mono ?_; rintro e w' ⟨rfl, ⟨nd, rfl⟩⟩) | (go_at_call 105; refine (HL.out _ (by repeat (first | exact Below.refl _ _ | apply below_alloc | apply pw_below_drewN))).mono ?_; rintro e w' ⟨rfl, hb⟩; have HB := Aside0.mk hb; clear hb))
    all_goals
      go_ret
      first
      | exact ⟨by simp [bad_, Bool.or_assoc, *], (pw_below_drewN (below_alloc (Below.refl _ _) _) _).trans (HB.out.mono (by simp))⟩
      | exact ⟨by simp [bad_, Bool.or_assoc, *], pw_below_drewN (below_alloc (Below.refl _ _) _) _⟩
      | (exfalso; omega)
  | false =>
    rw [hm] at HM
    by_cases h10 : x.f0 = 10
    · have h10b : (x.f0 != 10) = false := bne_eq_false_iff_eq.mpr h10
      clear h10
      go_enter Tryd.func113, Tryd.ntmps113
      go_wp2_with (first | (go_at_call 114; refine (HM.out _).mono ?_; rintro e w' ⟨rfl, ⟨nd, rfl⟩⟩) | (go_at_call 105; refine (HL.out _ (by repeat (first | exact Below.refl _ _ | apply below_alloc | apply pw_below_drewN))).mono ?_; rintro e w' ⟨rfl, hb⟩; have HB := Aside0.mk hb; clear hb))
      all_goals
        go_ret
        first
        | exact ⟨by simp [bad_, Bool.or_assoc, *], (pw_below_drewN (below_alloc (Below.refl _ _) _) _).trans (HB.out.mono (by simp))⟩
        | exact ⟨by simp [bad_, Bool.or_assoc, *], pw_below_drewN (below_alloc (Below.refl _ _) _) _⟩
        | (exfalso; omega)
    · have h10b : (x.f0 != 10) = true := bne_iff_ne.mpr h10
      clear h10
      go_enter Tryd.func113, Tryd.ntmps113
      go_wp2_with (first | (go_at_call 114; refine (HM.out _).mono ?_; rintro e w' ⟨rfl, ⟨nd, rfl⟩⟩) | (go_at_call 105; refine (HL.out _ (by repeat (first | exact Below.refl _ _ | apply below_alloc | apply pw_below_drewN))).mono ?_; rintro e w' ⟨rfl, hb⟩; have HB := Aside0.mk hb; clear hb))
      all_goals
        go_ret
        first
        | exact ⟨by simp [bad_, Bool.or_assoc, *], (pw_below_drewN (below_alloc (Below.refl _ _) _) _).trans (HB.out.mono (by simp))⟩
        | exact ⟨by simp [bad_, Bool.or_assoc, *], pw_below_drewN (below_alloc (Below.refl _ _) _) _⟩
        | (exfalso; omega)
def cells_May.f (l0 : List S71) : Option Bool := if (l0.all fun x => decide (x.f2.size < 4294967281)) = true then some (!(l0.any bad_)) else none
set_option maxHeartbeats 4000000 in
theorem cells_May.calls (A0 : Option Addr) (c0 : Nat) (l0 : List (S71)) (r : Bool) (w : World) (hr0 : Kd.C k71 w A0 l0.length l0) (hc0 : l0.length ≤ c0) (h : cells_May.f l0 = some r) (hG : Gl_ w := by first | exact Aside0.out (by assumption) | exact Gl_.at_ (by assumption) ⟨by repeat (first | exact Aside0.out (by assumption) | apply below_alloc | apply pw_below_drewN | apply below_drew1)⟩) :
    Calls Tryd.prog 66 #[.slice A0 l0.length c0] w fun e w' => e = .returned (.bool r) ∧ Below w.heap.size w w' := by
  unfold cells_May.f at h
  by_cases hl : (l0.all fun x => decide (x.f2.size < 4294967281)) = true
  · rw [if_pos hl] at h
    obtain rfl := Option.some.inj h
    clear h
    have HK := Aside0.mk (containsC_ A0 c0 l0 113 #[] bad_ w hr0 hc0 (enters_of Tryd.func113 (by kernel_rfl) rfl)
      (fun x hx W hW => bad_calls_ x W (of_decide_eq_true (List.all_eq_true.1 hl x hx)) (hG.below hW)))
    clear hr0 hG hl
    go_enter Tryd.func66, Tryd.ntmps66
    go_wp2_with (go_at_call 109; refine HK.out.mono ?_; rintro e w' ⟨rfl, hb⟩; have HB := Aside0.mk hb; clear hb)
    go_ret
    exact ⟨rfl, HB.out⟩
  · rw [if_neg hl] at h
    exact absurd h (by simp)

end Go.Proofs.YtgdpknmffohhaaaDoor.Pr
