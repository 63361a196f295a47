/- Printed texts, and given ones, of the seat's functions, in one file. -/
import Derived.Test.YtgdpknmffohhaaaDoorM0
import Derived.Test.YtgdpknmffohhaaaDoorM1
import Derived.Test.YtgdpknmffohhaaaDoorM2
import Derived.Test.YtgdpknmffohhaaaDoorOpen
import Derived.Lib.MapLaws
import Derived.Deep.RegionWith
namespace Go.Proofs.YtgdpknmffohhaaaDoor.Pl
open Go.RowKit Go.Proofs.YtgdpknmffohhaaaDoorW.PrintWords Go.Proofs.YtgdpknmffohhaaaDoorW.PrintLast Go.Proofs.YtgdpknmffohhaaaDoorW.PrintMore
attribute [local go_sem] max2_int min2_int max_two min_two max_three min_three max_four min_four   -- for this text's walks alone
set_option linter.unusedVariables false
set_option linter.unusedSimpArgs false

/-! ### quillworklaw05_CellsSets: function 11 -/
mutual
def quillworklaw05_CellsSets.j0 : Nat → List (S71) → Int → Int → Int → Int → ByteArray → Bool → Option (Bool)
  | 0, _, _, _, _, _, _, _ => none
  | k + 1, x0, x1, x2, x3, x4, x5, x28 => if x28 = true then ((quillworklaw05_awake.f k).bind fun t220 => (some t220)) else ((quillworkref05_Own.f x0).bind fun t221 => ((cells_Set.f x0 x1 x2 x3 x4).bind fun bt224 => ((quillworkref05_Set.f k t221 x1 x2 x3 x4).bind fun bt228 => ((cells_Link.f x0 x1 x2 x5).bind fun bt232 => ((quillworkref05_Links.f k t221 x1 x2 x5).bind fun bt236 => (if bt224.2 = bt228.2 then (if bt232.2 = bt236.2 then ((quillworkref05_Same.f k bt224.1 bt228.1).bind fun t240 => (if t240 = true then ((quillworkref05_Same.f k bt232.1 bt236.1).bind fun t241 => (quillworklaw05_CellsSets.j1 k x0 x1 x2 x3 t221 bt224.1 bt232.1 (!t241))) else (quillworklaw05_CellsSets.j1 k x0 x1 x2 x3 t221 bt224.1 bt232.1 true))) else (quillworklaw05_CellsSets.j1 k x0 x1 x2 x3 t221 bt224.1 bt232.1 true)) else (quillworklaw05_CellsSets.j1 k x0 x1 x2 x3 t221 bt224.1 bt232.1 true)))))))
def quillworklaw05_CellsSets.j1 : Nat → List (S71) → Int → Int → Int → List (S71) → List (S71) → List (S71) → Bool → Option (Bool)
  | 0, _, _, _, _, _, _, _, _ => none
  | k + 1, x0, x1, x2, x3, x13, x14, x18, x85 => if x85 = true then (some false) else ((quillworklaw05_spoil.f k x14).bind fun t242 => ((quillworklaw05_spoil.f k x18).bind fun t243 => ((cells_All.f x0 x1 x2 x3).bind fun t244 => ((quillworkref05_All.f k x13 x1 x2 x3).bind fun t245 => (if (t244 == t245) = true then ((cells_Some.f x0 x1 x2 x3).bind fun t246 => ((quillworkref05_Some.f k x13 x1 x2 x3).bind fun t247 => (if (t246 == t247) = true then ((quillworkref05_Same.f k x0 x13).bind fun t248 => (if t248 = true then ((quillworklaw05_awake.f k).bind fun t249 => (some t249)) else (some false))) else (some false)))) else (some false))))))
end
def quillworklaw05_CellsSets.f (k : Nat) (l0 : List (S71)) (a1 : Int) (a2 : Int) (a3 : Int) (a4 : Int) (a5 : ByteArray) : Option (Bool) := (quillworklaw05_long.f k l0).bind fun t219 => (if t219 = true then (quillworklaw05_CellsSets.j0 k l0 a1 a2 a3 a4 a5 true) else (quillworklaw05_CellsSets.j0 k l0 a1 a2 a3 a4 a5 (decide ((a5.size : Int) > 1000))))
set_option maxHeartbeats 8000000 in
set_option maxRecDepth 100000 in
theorem quillworklaw05_CellsSets.calls (k : Nat) (A0 : Option Addr) (c0 : Nat) (l0 : List (S71)) (a1 : Int) (a2 : Int) (a3 : Int) (a4 : Int) (a5 : ByteArray) (r : Bool) (w : World) (hr0 : Kd.C k71 w A0 l0.length l0) (hc0 : l0.length ≤ c0) (h : quillworklaw05_CellsSets.f k l0 a1 a2 a3 a4 a5 = some r) (hG : Gl_ w := by first | exact Aside0.out (by assumption) | exact Gl_.at_ (by assumption) ⟨by repeat (first | exact Aside0.out (by assumption) | apply below_alloc | apply pw_below_drewN | apply below_drew1)⟩) :
    Calls Tryd.prog 11 #[.slice A0 l0.length c0, .int .i64 a1, .int .i64 a2, .int .i64 a3, .int .i64 a4, .string a5] w fun e w' => e = .returned (.bool r) ∧ Below w.heap.size w w' := by
  have HR0 := Aside0.mk hr0
  have HC0 := Aside0.mk hc0
  clear hr0 hc0
  have HB := Aside0.mk (Below.refl w.heap.size w)
  have HG := Aside0.mk hG
  clear hG
  have H : ((quillworklaw05_long.f k l0).bind fun t219 => (if t219 = true then (quillworklaw05_CellsSets.j0 k l0 a1 a2 a3 a4 a5 true) else (quillworklaw05_CellsSets.j0 k l0 a1 a2 a3 a4 a5 (decide ((a5.size : Int) > 1000))))) = some r := h
  clear h
  have HC7 := Aside0.mk H
  clear H
  go_enter Tryd.func11, Tryd.ntmps11
  go_upto_region 1 with (fail)
  go_cut [28] (fun v28 wc => ∃ (kq : Nat) (x28_6 : Bool), v28 = .bool x28_6 ∧ Aside0 (quillworklaw05_CellsSets.j0 kq l0 a1 a2 a3 a4 a5 x28_6 = some r) ∧ Aside0 (kq ≤ k) ∧ Aside0 (Below w.heap.size w wc))
  case first =>
    have H := HC7.out
    clear HC7
    replace H := Option.bind_eq_some_iff.mp H
    obtain ⟨t219, A80, H⟩ := H
    replace H : (if t219 = true then (quillworklaw05_CellsSets.j0 k l0 a1 a2 a3 a4 a5 true) else (quillworklaw05_CellsSets.j0 k l0 a1 a2 a3 a4 a5 (decide ((a5.size : Int) > 1000)))) = some r := H
    have A8 := Aside0.mk A80
    clear A80
    by_cases c9 : t219 = true
    · subst c9
      have H1 : (quillworklaw05_CellsSets.j0 k l0 a1 a2 a3 a4 a5 true) = some r := by rw [if_pos rfl] at H; exact H
      clear H
      have H := H1
      clear H1
      have H' := Aside0.mk H
      clear H
      go_wp2_with (first | ((with_reducible refine gate_callee (f := 53) rfl ?_); refine goesL_ (some 23) rfl rfl Tryd.func53 (by kernel_rfl) rfl #[.slice A0 l0.length c0] rfl (by (try simp only [List.map_toArray, List.map_cons, List.map_nil]); first | done | rfl | (simp only [List.length_drop, List.length_take]; rfl)) ?_; (with_reducible refine (quillworklaw05_long.calls k _ _ l0 true _ ?side1 ?side2 A8.out).mono ?_); (case side1 => repeat (first | exact (Kd.C_below HR0.out HB.out) | (with_reducible refine Kd.C_alloc ?_ _) | (with_reducible refine Kd.C_drewN ?_ _) | (with_reducible refine Kd.C_drew ?_))); (case side2 => exact HC0.out); rintro e w' ⟨rfl, ⟨nd, rfl⟩⟩; refine ⟨_, rfl, ?_⟩))
      go_meet
      case rel => exact ⟨_, (true), (by first | rfl | (simp; done) | (simp [*]; done)), H', ⟨by first | omega | exact Nat.le_refl _⟩, ⟨by repeat (first | (with_reducible first | exact HB.out | apply below_alloc | apply pw_below_drewN | apply below_drew1) | exact HB.out)⟩⟩
    · replace c9 := Bool.eq_false_iff.mpr c9
      subst c9
      have H1 : (quillworklaw05_CellsSets.j0 k l0 a1 a2 a3 a4 a5 (decide ((a5.size : Int) > 1000))) = some r := by rw [if_neg (show ¬ (false = true) by decide)] at H; exact H
      clear H
      have H := H1
      clear H1
      have H' := Aside0.mk H
      clear H
      go_wp2_with (first | ((with_reducible refine gate_callee (f := 53) rfl ?_); refine goesL_ (some 23) rfl rfl Tryd.func53 (by kernel_rfl) rfl #[.slice A0 l0.length c0] rfl (by (try simp only [List.map_toArray, List.map_cons, List.map_nil]); first | done | rfl | (simp only [List.length_drop, List.length_take]; rfl)) ?_; (with_reducible refine (quillworklaw05_long.calls k _ _ l0 false _ ?side1 ?side2 A8.out).mono ?_); (case side1 => repeat (first | exact (Kd.C_below HR0.out HB.out) | (with_reducible refine Kd.C_alloc ?_ _) | (with_reducible refine Kd.C_drewN ?_ _) | (with_reducible refine Kd.C_drew ?_))); (case side2 => exact HC0.out); rintro e w' ⟨rfl, ⟨nd, rfl⟩⟩; refine ⟨_, rfl, ?_⟩))
      go_meet
      case rel => exact ⟨_, (decide ((a5.size : Int) > 1000)), (by first | rfl | (simp; done) | (simp [*]; done)), H', ⟨by first | omega | exact Nat.le_refl _⟩, ⟨by repeat (first | (with_reducible first | exact HB.out | apply below_alloc | apply pw_below_drewN | apply below_drew1) | exact HB.out)⟩⟩
  case rest =>
    clear HC7
    try clear c1
    try clear p2
    try clear c5
    try clear c9
    obtain ⟨kq, x28_6, rfl, HA, HJ6, HB⟩ := hcut
    cases kq with
    | zero => exact absurd HA.out (by simp [quillworklaw05_CellsSets.j0])
    | succ kj6 =>
      have H := HA.out
      clear HA
      simp only [quillworklaw05_CellsSets.j0] at H
      by_cases c10 : x28_6 = true
      · subst c10
        have H1 : ((quillworklaw05_awake.f kj6).bind fun t220 => (some t220)) = some r := by rw [if_pos rfl] at H; exact H
        clear H
        have H := H1
        clear H1
        replace H := Option.bind_eq_some_iff.mp H
        obtain ⟨t220, A110, H⟩ := H
        replace H : (some t220) = some r := H
        have A11 := Aside0.mk A110
        clear A110
        obtain rfl := Option.some.inj H
        go_wp2_with (first | ((with_reducible refine gate_callee (f := 54) rfl ?_); refine goesL_ (some 29) rfl rfl Tryd.func54 (by kernel_rfl) rfl #[] rfl (by (try simp only [List.map_toArray, List.map_cons, List.map_nil]); first | done | rfl | (simp only [List.length_drop, List.length_take]; rfl)) ?_; (with_reducible refine (quillworklaw05_awake.calls kj6  t220 _ A11.out).mono ?_); rintro e w12 ⟨rfl, hb⟩; refine ⟨_, rfl, ?_⟩; have n0_ := Aside0.mk (below_step (by repeat (first | (with_reducible first | exact HB.out | apply below_alloc | apply pw_below_drewN | apply below_drew1) | exact HB.out)) hb); clear HB; have HB := n0_; clear n0_; (try clear hb); (try clear hb2); (try clear hk); (try clear hi)))
        go_ret
        exact ⟨by first | rfl | (simp [errW_none, errW_some] <;> rfl) | (simp [*, errW_none, errW_some] <;> rfl), by repeat (first | (with_reducible first | exact HB.out | apply below_alloc | apply pw_below_drewN | apply below_drew1) | exact HB.out)⟩
      · replace c10 := Bool.eq_false_iff.mpr c10
        subst c10
        have H1 : ((quillworkref05_Own.f l0).bind fun t221 => ((cells_Set.f l0 a1 a2 a3 a4).bind fun bt224 => ((quillworkref05_Set.f kj6 t221 a1 a2 a3 a4).bind fun bt228 => ((cells_Link.f l0 a1 a2 a5).bind fun bt232 => ((quillworkref05_Links.f kj6 t221 a1 a2 a5).bind fun bt236 => (if bt224.2 = bt228.2 then (if bt232.2 = bt236.2 then ((quillworkref05_Same.f kj6 bt224.1 bt228.1).bind fun t240 => (if t240 = true then ((quillworkref05_Same.f kj6 bt232.1 bt236.1).bind fun t241 => (quillworklaw05_CellsSets.j1 kj6 l0 a1 a2 a3 t221 bt224.1 bt232.1 (!t241))) else (quillworklaw05_CellsSets.j1 kj6 l0 a1 a2 a3 t221 bt224.1 bt232.1 true))) else (quillworklaw05_CellsSets.j1 kj6 l0 a1 a2 a3 t221 bt224.1 bt232.1 true)) else (quillworklaw05_CellsSets.j1 kj6 l0 a1 a2 a3 t221 bt224.1 bt232.1 true))))))) = some r := by rw [if_neg (show ¬ (false = true) by decide)] at H; exact H
        clear H
        have H := H1
        clear H1
        replace H := Option.bind_eq_some_iff.mp H
        obtain ⟨t221, A130, H⟩ := H
        replace H : ((cells_Set.f l0 a1 a2 a3 a4).bind fun bt224 => ((quillworkref05_Set.f kj6 t221 a1 a2 a3 a4).bind fun bt228 => ((cells_Link.f l0 a1 a2 a5).bind fun bt232 => ((quillworkref05_Links.f kj6 t221 a1 a2 a5).bind fun bt236 => (if bt224.2 = bt228.2 then (if bt232.2 = bt236.2 then ((quillworkref05_Same.f kj6 bt224.1 bt228.1).bind fun t240 => (if t240 = true then ((quillworkref05_Same.f kj6 bt232.1 bt236.1).bind fun t241 => (quillworklaw05_CellsSets.j1 kj6 l0 a1 a2 a3 t221 bt224.1 bt232.1 (!t241))) else (quillworklaw05_CellsSets.j1 kj6 l0 a1 a2 a3 t221 bt224.1 bt232.1 true))) else (quillworklaw05_CellsSets.j1 kj6 l0 a1 a2 a3 t221 bt224.1 bt232.1 true)) else (quillworklaw05_CellsSets.j1 kj6 l0 a1 a2 a3 t221 bt224.1 bt232.1 true)))))) = some r := H
        have A13 := Aside0.mk A130
        clear A130
        replace H := Option.bind_eq_some_iff.mp H
        obtain ⟨⟨t224, t225⟩, A140, H⟩ := H
        replace H : ((quillworkref05_Set.f kj6 t221 a1 a2 a3 a4).bind fun bt228 => ((cells_Link.f l0 a1 a2 a5).bind fun bt232 => ((quillworkref05_Links.f kj6 t221 a1 a2 a5).bind fun bt236 => (if t225 = bt228.2 then (if bt232.2 = bt236.2 then ((quillworkref05_Same.f kj6 t224 bt228.1).bind fun t240 => (if t240 = true then ((quillworkref05_Same.f kj6 bt232.1 bt236.1).bind fun t241 => (quillworklaw05_CellsSets.j1 kj6 l0 a1 a2 a3 t221 t224 bt232.1 (!t241))) else (quillworklaw05_CellsSets.j1 kj6 l0 a1 a2 a3 t221 t224 bt232.1 true))) else (quillworklaw05_CellsSets.j1 kj6 l0 a1 a2 a3 t221 t224 bt232.1 true)) else (quillworklaw05_CellsSets.j1 kj6 l0 a1 a2 a3 t221 t224 bt232.1 true))))) = some r := H
        have A14 := Aside0.mk A140
        clear A140
        replace H := Option.bind_eq_some_iff.mp H
        obtain ⟨⟨t228, t229⟩, A150, H⟩ := H
        replace H : ((cells_Link.f l0 a1 a2 a5).bind fun bt232 => ((quillworkref05_Links.f kj6 t221 a1 a2 a5).bind fun bt236 => (if t225 = t229 then (if bt232.2 = bt236.2 then ((quillworkref05_Same.f kj6 t224 t228).bind fun t240 => (if t240 = true then ((quillworkref05_Same.f kj6 bt232.1 bt236.1).bind fun t241 => (quillworklaw05_CellsSets.j1 kj6 l0 a1 a2 a3 t221 t224 bt232.1 (!t241))) else (quillworklaw05_CellsSets.j1 kj6 l0 a1 a2 a3 t221 t224 bt232.1 true))) else (quillworklaw05_CellsSets.j1 kj6 l0 a1 a2 a3 t221 t224 bt232.1 true)) else (quillworklaw05_CellsSets.j1 kj6 l0 a1 a2 a3 t221 t224 bt232.1 true)))) = some r := H
        have A15 := Aside0.mk A150
        clear A150
        replace H := Option.bind_eq_some_iff.mp H
        obtain ⟨⟨t232, t233⟩, A160, H⟩ := H
        replace H : ((quillworkref05_Links.f kj6 t221 a1 a2 a5).bind fun bt236 => (if t225 = t229 then (if t233 = bt236.2 then ((quillworkref05_Same.f kj6 t224 t228).bind fun t240 => (if t240 = true then ((quillworkref05_Same.f kj6 t232 bt236.1).bind fun t241 => (quillworklaw05_CellsSets.j1 kj6 l0 a1 a2 a3 t221 t224 t232 (!t241))) else (quillworklaw05_CellsSets.j1 kj6 l0 a1 a2 a3 t221 t224 t232 true))) else (quillworklaw05_CellsSets.j1 kj6 l0 a1 a2 a3 t221 t224 t232 true)) else (quillworklaw05_CellsSets.j1 kj6 l0 a1 a2 a3 t221 t224 t232 true))) = some r := H
        have A16 := Aside0.mk A160
        clear A160
        replace H := Option.bind_eq_some_iff.mp H
        obtain ⟨⟨t236, t237⟩, A170, H⟩ := H
        replace H : (if t225 = t229 then (if t233 = t237 then ((quillworkref05_Same.f kj6 t224 t228).bind fun t240 => (if t240 = true then ((quillworkref05_Same.f kj6 t232 t236).bind fun t241 => (quillworklaw05_CellsSets.j1 kj6 l0 a1 a2 a3 t221 t224 t232 (!t241))) else (quillworklaw05_CellsSets.j1 kj6 l0 a1 a2 a3 t221 t224 t232 true))) else (quillworklaw05_CellsSets.j1 kj6 l0 a1 a2 a3 t221 t224 t232 true)) else (quillworklaw05_CellsSets.j1 kj6 l0 a1 a2 a3 t221 t224 t232 true)) = some r := H
        have A17 := Aside0.mk A170
        clear A170
        have HC18 := Aside0.mk H
        clear H
        go_upto_region 8 with (first | ((with_reducible refine gate_callee (f := 55) rfl ?_); refine goesL_ (some 31) rfl rfl Tryd.func55 (by kernel_rfl) rfl #[.slice A0 l0.length c0] rfl (by (try simp only [List.map_toArray, List.map_cons, List.map_nil]); first | done | rfl | (simp only [List.length_drop, List.length_take]; rfl)) ?_; (with_reducible refine (quillworkref05_Own.calls _ _ l0 t221 _ ?side1 ?side2 A13.out).mono ?_); (case side1 => repeat (first | exact (Kd.C_below HR0.out HB.out) | (with_reducible refine Kd.C_alloc ?_ _) | (with_reducible refine Kd.C_drewN ?_ _) | (with_reducible refine Kd.C_drew ?_))); (case side2 => exact HC0.out); rintro e w19 ⟨v222, rfl, ho0, hb⟩; refine ⟨_, rfl, ?_⟩; have n0_ := Aside0.mk (Kd.R_lower ho0 (below_size (by repeat (first | (with_reducible first | exact HB.out | apply below_alloc | apply pw_below_drewN | apply below_drew1) | exact HB.out)))); have n1_ := Aside0.mk (below_step (by repeat (first | (with_reducible first | exact HB.out | apply below_alloc | apply pw_below_drewN | apply below_drew1) | exact HB.out)) hb); clear HB; have HO223 := n0_; have HB := n1_; clear n0_ n1_; (try clear hb); (try clear hb2); (try clear hk); (try clear hi); (try clear ho0)) | ((with_reducible refine gate_callee (f := 56) rfl ?_); refine goesL_ (some 38) rfl rfl Tryd.func56 (by kernel_rfl) rfl #[.slice A0 l0.length c0, .int .i64 a1, .int .i64 a2, .int .i64 a3, .int .i64 a4] rfl (by (try simp only [List.map_toArray, List.map_cons, List.map_nil]); first | done | rfl | (simp only [List.length_drop, List.length_take]; rfl)) ?_; (with_reducible refine (cells_Set.calls _ _ l0 a1 a2 a3 a4 t224 t225 _ ?side1 ?side2 A14.out).mono ?_); (case side1 => repeat (first | exact (Kd.C_below HR0.out HB.out) | (with_reducible refine Kd.C_alloc ?_ _) | (with_reducible refine Kd.C_drewN ?_ _) | (with_reducible refine Kd.C_drew ?_))); (case side2 => exact HC0.out); rintro e w20 ⟨v226, rfl, ho0, hb⟩; refine ⟨_, rfl, ?_⟩; have n0_ := Aside0.mk (Kd.R_elder' (by (with_reducible repeat (first | apply Kd.R_alloc | apply Kd.R_drewN | apply Kd.R_drew)); exact HO223.out) (Kd.R_base ho0) hb); have n1_ := Aside0.mk (Kd.R_lower (Kd.R_new' ho0 (Kd.R_lt (by (with_reducible repeat (first | apply Kd.R_alloc | apply Kd.R_drewN | apply Kd.R_drew)); exact HO223.out))) (below_size (by repeat (first | (with_reducible first | exact HB.out | apply below_alloc | apply pw_below_drewN | apply below_drew1) | exact HB.out)))); have n2_ := Aside0.mk (below_step (by repeat (first | (with_reducible first | exact HB.out | apply below_alloc | apply pw_below_drewN | apply below_drew1) | exact HB.out)) hb); clear HO223; clear HB; have HO223 := n0_; have HO227 := n1_; have HB := n2_; clear n0_ n1_ n2_; (try clear hb); (try clear hb2); (try clear hk); (try clear hi); (try clear ho0); obtain ⟨Ao21, co21, eo21⟩ := Kd.R_slice HO223.out; subst eo21) | ((with_reducible refine gate_callee (f := 57) rfl ?_); refine goesL_ (some 47) rfl rfl Tryd.func57 (by kernel_rfl) rfl #[.slice Ao21 t221.length co21, .int .i64 a1, .int .i64 a2, .int .i64 a3, .int .i64 a4] rfl (by (try simp only [List.map_toArray, List.map_cons, List.map_nil]); first | done | rfl | (simp only [List.length_drop, List.length_take]; rfl)) ?_; (with_reducible refine (quillworkref05_Set.calls kj6 _ _ t221 a1 a2 a3 a4 t228 t229 _ ?side1 ?side2 A15.out).mono ?_); (case side1 => repeat (first | exact (Kd.R_reads' HO223.out).2.2 | (with_reducible refine Kd.C_alloc ?_ _) | (with_reducible refine Kd.C_drewN ?_ _) | (with_reducible refine Kd.C_drew ?_))); (case side2 => exact (Kd.R_reads' HO223.out).2.1); rintro e w22 ⟨v230, rfl, ho0, hb⟩; refine ⟨_, rfl, ?_⟩; have n0_ := Aside0.mk (Kd.R_elder' (by (with_reducible repeat (first | apply Kd.R_alloc | apply Kd.R_drewN | apply Kd.R_drew)); exact HO223.out) (Kd.R_base ho0) hb); have n1_ := Aside0.mk (Kd.R_elder' (by (with_reducible repeat (first | apply Kd.R_alloc | apply Kd.R_drewN | apply Kd.R_drew)); exact HO227.out) (Kd.R_base ho0) hb); have n2_ := Aside0.mk (Kd.R_lower (Kd.R_new' (Kd.R_new' ho0 (Kd.R_lt (by (with_reducible repeat (first | apply Kd.R_alloc | apply Kd.R_drewN | apply Kd.R_drew)); exact HO223.out))) (Kd.R_lt (by (with_reducible repeat (first | apply Kd.R_alloc | apply Kd.R_drewN | apply Kd.R_drew)); exact HO227.out))) (below_size (by repeat (first | (with_reducible first | exact HB.out | apply below_alloc | apply pw_below_drewN | apply below_drew1) | exact HB.out)))); have n3_ := Aside0.mk (below_step (by repeat (first | (with_reducible first | exact HB.out | apply below_alloc | apply pw_below_drewN | apply below_drew1) | exact HB.out)) hb); clear HO223; clear HO227; clear HB; have HO223 := n0_; have HO227 := n1_; have HO231 := n2_; have HB := n3_; clear n0_ n1_ n2_ n3_; (try clear hb); (try clear hb2); (try clear hk); (try clear hi); (try clear ho0)) | ((with_reducible refine gate_callee (f := 58) rfl ?_); refine goesL_ (some 55) rfl rfl Tryd.func58 (by kernel_rfl) rfl #[.slice A0 l0.length c0, .int .i64 a1, .int .i64 a2, .string a5] rfl (by (try simp only [List.map_toArray, List.map_cons, List.map_nil]); first | done | rfl | (simp only [List.length_drop, List.length_take]; rfl)) ?_; (with_reducible refine (cells_Link.calls _ _ l0 a1 a2 a5 t232 t233 _ ?side1 ?side2 A16.out).mono ?_); (case side1 => repeat (first | exact (Kd.C_below HR0.out HB.out) | (with_reducible refine Kd.C_alloc ?_ _) | (with_reducible refine Kd.C_drewN ?_ _) | (with_reducible refine Kd.C_drew ?_))); (case side2 => exact HC0.out); rintro e w23 ⟨v234, rfl, ho0, hb⟩; refine ⟨_, rfl, ?_⟩; have n0_ := Aside0.mk (Kd.R_elder' (by (with_reducible repeat (first | apply Kd.R_alloc | apply Kd.R_drewN | apply Kd.R_drew)); exact HO223.out) (Kd.R_base ho0) hb); have n1_ := Aside0.mk (Kd.R_elder' (by (with_reducible repeat (first | apply Kd.R_alloc | apply Kd.R_drewN | apply Kd.R_drew)); exact HO227.out) (Kd.R_base ho0) hb); have n2_ := Aside0.mk (Kd.R_elder' (by (with_reducible repeat (first | apply Kd.R_alloc | apply Kd.R_drewN | apply Kd.R_drew)); exact HO231.out) (Kd.R_base ho0) hb); have n3_ := Aside0.mk (Kd.R_lower (Kd.R_new' (Kd.R_new' (Kd.R_new' ho0 (Kd.R_lt (by (with_reducible repeat (first | apply Kd.R_alloc | apply Kd.R_drewN | apply Kd.R_drew)); exact HO223.out))) (Kd.R_lt (by (with_reducible repeat (first | apply Kd.R_alloc | apply Kd.R_drewN | apply Kd.R_drew)); exact HO227.out))) (Kd.R_lt (by (with_reducible repeat (first | apply Kd.R_alloc | apply Kd.R_drewN | apply Kd.R_drew)); exact HO231.out))) (below_size (by repeat (first | (with_reducible first | exact HB.out | apply below_alloc | apply pw_below_drewN | apply below_drew1) | exact HB.out)))); have n4_ := Aside0.mk (below_step (by repeat (first | (with_reducible first | exact HB.out | apply below_alloc | apply pw_below_drewN | apply below_drew1) | exact HB.out)) hb); clear HO223; clear HO227; clear HO231; clear HB; have HO223 := n0_; have HO227 := n1_; have HO231 := n2_; have HO235 := n3_; have HB := n4_; clear n0_ n1_ n2_ n3_ n4_; (try clear hb); (try clear hb2); (try clear hk); (try clear hi); (try clear ho0)) | ((with_reducible refine gate_callee (f := 59) rfl ?_); refine goesL_ (some 63) rfl rfl Tryd.func59 (by kernel_rfl) rfl #[.slice Ao21 t221.length co21, .int .i64 a1, .int .i64 a2, .string a5] rfl (by (try simp only [List.map_toArray, List.map_cons, List.map_nil]); first | done | rfl | (simp only [List.length_drop, List.length_take]; rfl)) ?_; (with_reducible refine (quillworkref05_Links.calls kj6 _ _ t221 a1 a2 a5 t236 t237 _ ?side1 ?side2 A17.out).mono ?_); (case side1 => repeat (first | exact (Kd.R_reads' HO223.out).2.2 | (with_reducible refine Kd.C_alloc ?_ _) | (with_reducible refine Kd.C_drewN ?_ _) | (with_reducible refine Kd.C_drew ?_))); (case side2 => exact (Kd.R_reads' HO223.out).2.1); rintro e w24 ⟨v238, rfl, ho0, hb⟩; refine ⟨_, rfl, ?_⟩; have n0_ := Aside0.mk (Kd.R_elder' (by (with_reducible repeat (first | apply Kd.R_alloc | apply Kd.R_drewN | apply Kd.R_drew)); exact HO223.out) (Kd.R_base ho0) hb); have n1_ := Aside0.mk (Kd.R_elder' (by (with_reducible repeat (first | apply Kd.R_alloc | apply Kd.R_drewN | apply Kd.R_drew)); exact HO227.out) (Kd.R_base ho0) hb); have n2_ := Aside0.mk (Kd.R_elder' (by (with_reducible repeat (first | apply Kd.R_alloc | apply Kd.R_drewN | apply Kd.R_drew)); exact HO231.out) (Kd.R_base ho0) hb); have n3_ := Aside0.mk (Kd.R_elder' (by (with_reducible repeat (first | apply Kd.R_alloc | apply Kd.R_drewN | apply Kd.R_drew)); exact HO235.out) (Kd.R_base ho0) hb); have n4_ := Aside0.mk (Kd.R_lower (Kd.R_new' (Kd.R_new' (Kd.R_new' (Kd.R_new' ho0 (Kd.R_lt (by (with_reducible repeat (first | apply Kd.R_alloc | apply Kd.R_drewN | apply Kd.R_drew)); exact HO223.out))) (Kd.R_lt (by (with_reducible repeat (first | apply Kd.R_alloc | apply Kd.R_drewN | apply Kd.R_drew)); exact HO227.out))) (Kd.R_lt (by (with_reducible repeat (first | apply Kd.R_alloc | apply Kd.R_drewN | apply Kd.R_drew)); exact HO231.out))) (Kd.R_lt (by (with_reducible repeat (first | apply Kd.R_alloc | apply Kd.R_drewN | apply Kd.R_drew)); exact HO235.out))) (below_size (by repeat (first | (with_reducible first | exact HB.out | apply below_alloc | apply pw_below_drewN | apply below_drew1) | exact HB.out)))); have n5_ := Aside0.mk (below_step (by repeat (first | (with_reducible first | exact HB.out | apply below_alloc | apply pw_below_drewN | apply below_drew1) | exact HB.out)) hb); clear HO223; clear HO227; clear HO231; clear HO235; clear HB; have HO223 := n0_; have HO227 := n1_; have HO231 := n2_; have HO235 := n3_; have HO239 := n4_; have HB := n5_; clear n0_ n1_ n2_ n3_ n4_ n5_; (try clear hb); (try clear hb2); (try clear hk); (try clear hi); (try clear ho0)))
        (try simp only [Act.put, List.setIfInBounds_toArray, List.set_cons_zero, List.set_cons_succ])
        go_cut [85] (fun v85 wc => ∃ (kq : Nat) (x85_17 : Bool), v85 = .bool x85_17 ∧ Aside0 (quillworklaw05_CellsSets.j1 kq l0 a1 a2 a3 t221 t224 t232 x85_17 = some r) ∧ Aside0 (kq ≤ kj6) ∧ Aside0 (Kd.R k71 71 wc w.heap.size (fun k_ => some k_ ≠ (v226 : Value).ownBlock ∧ some k_ ≠ (v234 : Value).ownBlock) (.slice Ao21 t221.length co21) t221) ∧ Aside0 (Kd.R k71 71 wc w.heap.size (fun k_ => some k_ ≠ ((.slice Ao21 t221.length co21) : Value).ownBlock ∧ some k_ ≠ (v234 : Value).ownBlock) v226 t224) ∧ Aside0 (Kd.R k71 71 wc w.heap.size (fun k_ => some k_ ≠ ((.slice Ao21 t221.length co21) : Value).ownBlock ∧ some k_ ≠ (v226 : Value).ownBlock) v234 t232) ∧ Aside0 (Below w.heap.size w wc))
        case first =>
          have H := HC18.out
          clear HC18
          by_cases c25 : t225 = t229
          · rw [if_pos c25] at H
            have c25b0 : (t225 == t229) = true := beq_iff_eq.mpr c25
            have c25b1 : (t225 != t229) = false := bne_eq_false_iff_eq.mpr c25
            clear c25
            (first | rw [c25b0] | (simp only [i64_w, i32_w]; rw [c25b0]) | skip)
            by_cases c26 : t233 = t237
            · rw [if_pos c26] at H
              have c26b0 : (t233 == t237) = true := beq_iff_eq.mpr c26
              have c26b1 : (t233 != t237) = false := bne_eq_false_iff_eq.mpr c26
              clear c26
              replace H := Option.bind_eq_some_iff.mp H
              obtain ⟨t240, A270, H⟩ := H
              replace H : (if t240 = true then ((quillworkref05_Same.f kj6 t232 t236).bind fun t241 => (quillworklaw05_CellsSets.j1 kj6 l0 a1 a2 a3 t221 t224 t232 (!t241))) else (quillworklaw05_CellsSets.j1 kj6 l0 a1 a2 a3 t221 t224 t232 true)) = some r := H
              have A27 := Aside0.mk A270
              clear A270
              by_cases c28 : t240 = true
              · subst c28
                have H1 : ((quillworkref05_Same.f kj6 t232 t236).bind fun t241 => (quillworklaw05_CellsSets.j1 kj6 l0 a1 a2 a3 t221 t224 t232 (!t241))) = some r := by rw [if_pos rfl] at H; exact H
                clear H
                have H := H1
                clear H1
                replace H := Option.bind_eq_some_iff.mp H
                obtain ⟨t241, A290, H⟩ := H
                replace H : (quillworklaw05_CellsSets.j1 kj6 l0 a1 a2 a3 t221 t224 t232 (!t241)) = some r := H
                have A29 := Aside0.mk A290
                clear A290
                have H' := Aside0.mk H
                clear H
                obtain ⟨Ao30, co30, eo30⟩ := Kd.R_slice HO227.out
                subst eo30
                obtain ⟨Ao31, co31, eo31⟩ := Kd.R_slice HO231.out
                subst eo31
                go_wp2_with (first | (go_at_call 36; (with_reducible refine (quillworkref05_Same.calls kj6 _ _ t224 _ _ t228 true _ ?side1 ?side2 ?side3 ?side4 A27.out).mono ?_); (case side1 => repeat (first | exact (Kd.R_reads' HO227.out).2.2 | (with_reducible refine Kd.C_alloc ?_ _) | (with_reducible refine Kd.C_drewN ?_ _) | (with_reducible refine Kd.C_drew ?_))); (case side2 => exact (Kd.R_reads' HO227.out).2.1); (case side3 => repeat (first | exact (Kd.R_reads' HO231.out).2.2 | (with_reducible refine Kd.C_alloc ?_ _) | (with_reducible refine Kd.C_drewN ?_ _) | (with_reducible refine Kd.C_drew ?_))); (case side4 => exact (Kd.R_reads' HO231.out).2.1); rintro e w' ⟨rfl, ⟨nd, rfl⟩⟩; obtain ⟨Ao32, co32, eo32⟩ := Kd.R_slice HO235.out; subst eo32; obtain ⟨Ao33, co33, eo33⟩ := Kd.R_slice HO239.out; subst eo33) | (go_at_call 36; (with_reducible refine (quillworkref05_Same.calls kj6 _ _ t232 _ _ t236 t241 _ ?side1 ?side2 ?side3 ?side4 A29.out).mono ?_); (case side1 => repeat (first | exact (Kd.R_reads' HO235.out).2.2 | (with_reducible refine Kd.C_alloc ?_ _) | (with_reducible refine Kd.C_drewN ?_ _) | (with_reducible refine Kd.C_drew ?_))); (case side2 => exact (Kd.R_reads' HO235.out).2.1); (case side3 => repeat (first | exact (Kd.R_reads' HO239.out).2.2 | (with_reducible refine Kd.C_alloc ?_ _) | (with_reducible refine Kd.C_drewN ?_ _) | (with_reducible refine Kd.C_drew ?_))); (case side4 => exact (Kd.R_reads' HO239.out).2.1); rintro e w' ⟨rfl, ⟨nd, rfl⟩⟩))
                go_meet
                case rel => exact ⟨_, (!t241), (by first | rfl | (simp; done) | (simp [*]; done)), H', ⟨by have := HJ6.out; first | omega | exact Nat.le_refl _⟩, ⟨by (with_reducible repeat (first | apply Kd.R_alloc | apply Kd.R_drewN | apply Kd.R_drew)); exact Kd.R_mono HO223.out (fun _ hk => ⟨hk.1.1.1.2, hk.1.2⟩)⟩, ⟨by (with_reducible repeat (first | apply Kd.R_alloc | apply Kd.R_drewN | apply Kd.R_drew)); exact Kd.R_mono HO227.out (fun _ hk => ⟨hk.1.1.1.2, hk.1.2⟩)⟩, ⟨by (with_reducible repeat (first | apply Kd.R_alloc | apply Kd.R_drewN | apply Kd.R_drew)); exact Kd.R_mono HO235.out (fun _ hk => ⟨hk.1.1.1.2, hk.1.1.2⟩)⟩, ⟨by repeat (first | (with_reducible first | exact HB.out | apply below_alloc | apply pw_below_drewN | apply below_drew1) | exact HB.out)⟩⟩
              · replace c28 := Bool.eq_false_iff.mpr c28
                subst c28
                have H1 : (quillworklaw05_CellsSets.j1 kj6 l0 a1 a2 a3 t221 t224 t232 true) = some r := by rw [if_neg (show ¬ (false = true) by decide)] at H; exact H
                clear H
                have H := H1
                clear H1
                have H' := Aside0.mk H
                clear H
                obtain ⟨Ao34, co34, eo34⟩ := Kd.R_slice HO227.out
                subst eo34
                obtain ⟨Ao35, co35, eo35⟩ := Kd.R_slice HO231.out
                subst eo35
                go_wp2_with (first | (go_at_call 36; (with_reducible refine (quillworkref05_Same.calls kj6 _ _ t224 _ _ t228 false _ ?side1 ?side2 ?side3 ?side4 A27.out).mono ?_); (case side1 => repeat (first | exact (Kd.R_reads' HO227.out).2.2 | (with_reducible refine Kd.C_alloc ?_ _) | (with_reducible refine Kd.C_drewN ?_ _) | (with_reducible refine Kd.C_drew ?_))); (case side2 => exact (Kd.R_reads' HO227.out).2.1); (case side3 => repeat (first | exact (Kd.R_reads' HO231.out).2.2 | (with_reducible refine Kd.C_alloc ?_ _) | (with_reducible refine Kd.C_drewN ?_ _) | (with_reducible refine Kd.C_drew ?_))); (case side4 => exact (Kd.R_reads' HO231.out).2.1); rintro e w' ⟨rfl, ⟨nd, rfl⟩⟩))
                go_meet
                case rel => exact ⟨_, (true), (by first | rfl | (simp; done) | (simp [*]; done)), H', ⟨by have := HJ6.out; first | omega | exact Nat.le_refl _⟩, ⟨by (with_reducible repeat (first | apply Kd.R_alloc | apply Kd.R_drewN | apply Kd.R_drew)); exact Kd.R_mono HO223.out (fun _ hk => ⟨hk.1.1.1.2, hk.1.2⟩)⟩, ⟨by (with_reducible repeat (first | apply Kd.R_alloc | apply Kd.R_drewN | apply Kd.R_drew)); exact Kd.R_mono HO227.out (fun _ hk => ⟨hk.1.1.1.2, hk.1.2⟩)⟩, ⟨by (with_reducible repeat (first | apply Kd.R_alloc | apply Kd.R_drewN | apply Kd.R_drew)); exact Kd.R_mono HO235.out (fun _ hk => ⟨hk.1.1.1.2, hk.1.1.2⟩)⟩, ⟨by repeat (first | (with_reducible first | exact HB.out | apply below_alloc | apply pw_below_drewN | apply below_drew1) | exact HB.out)⟩⟩
            · rw [if_neg c26] at H
              have c26b0 : (t233 == t237) = false := beq_eq_false_iff_ne.mpr c26
              have c26b1 : (t233 != t237) = true := bne_iff_ne.mpr c26
              have H' := Aside0.mk H
              clear H
              go_wp2
              go_meet
              case rel => exact ⟨_, (true), (by first | rfl | (simp; done) | (simp [*]; done)), H', ⟨by have := HJ6.out; first | omega | exact Nat.le_refl _⟩, ⟨by (with_reducible repeat (first | apply Kd.R_alloc | apply Kd.R_drewN | apply Kd.R_drew)); exact Kd.R_mono HO223.out (fun _ hk => ⟨hk.1.1.1.2, hk.1.2⟩)⟩, ⟨by (with_reducible repeat (first | apply Kd.R_alloc | apply Kd.R_drewN | apply Kd.R_drew)); exact Kd.R_mono HO227.out (fun _ hk => ⟨hk.1.1.1.2, hk.1.2⟩)⟩, ⟨by (with_reducible repeat (first | apply Kd.R_alloc | apply Kd.R_drewN | apply Kd.R_drew)); exact Kd.R_mono HO235.out (fun _ hk => ⟨hk.1.1.1.2, hk.1.1.2⟩)⟩, ⟨by repeat (first | (with_reducible first | exact HB.out | apply below_alloc | apply pw_below_drewN | apply below_drew1) | exact HB.out)⟩⟩
          · rw [if_neg c25] at H
            have c25b0 : (t225 == t229) = false := beq_eq_false_iff_ne.mpr c25
            have c25b1 : (t225 != t229) = true := bne_iff_ne.mpr c25
            (first | rw [c25b0] | (simp only [i64_w, i32_w]; rw [c25b0]) | skip)
            have H' := Aside0.mk H
            clear H
            go_wp2
            go_meet
            case rel => exact ⟨_, (true), (by first | rfl | (simp; done) | (simp [*]; done)), H', ⟨by have := HJ6.out; first | omega | exact Nat.le_refl _⟩, ⟨by (with_reducible repeat (first | apply Kd.R_alloc | apply Kd.R_drewN | apply Kd.R_drew)); exact Kd.R_mono HO223.out (fun _ hk => ⟨hk.1.1.1.2, hk.1.2⟩)⟩, ⟨by (with_reducible repeat (first | apply Kd.R_alloc | apply Kd.R_drewN | apply Kd.R_drew)); exact Kd.R_mono HO227.out (fun _ hk => ⟨hk.1.1.1.2, hk.1.2⟩)⟩, ⟨by (with_reducible repeat (first | apply Kd.R_alloc | apply Kd.R_drewN | apply Kd.R_drew)); exact Kd.R_mono HO235.out (fun _ hk => ⟨hk.1.1.1.2, hk.1.1.2⟩)⟩, ⟨by repeat (first | (with_reducible first | exact HB.out | apply below_alloc | apply pw_below_drewN | apply below_drew1) | exact HB.out)⟩⟩
        case rest =>
          clear HC18
          try clear c1
          try clear c2
          try clear p2
          try clear c5
          try clear c9
          try clear c10
          try clear c11
          try clear c25
          try clear c25b0
          try clear c25b1
          try clear c26
          try clear c26b0
          try clear c26b1
          try clear c28
          try clear p2
          obtain ⟨kq, x85_17, rfl, HA, HJ17, HO_13, HO_14, HO_18, HB⟩ := hcut
          cases kq with
          | zero => exact absurd HA.out (by simp [quillworklaw05_CellsSets.j1])
          | succ kj17 =>
            have H := HA.out
            clear HA
            simp only [quillworklaw05_CellsSets.j1] at H
            by_cases c36 : x85_17 = true
            · subst c36
              have H1 : (some false) = some r := by rw [if_pos rfl] at H; exact H
              clear H
              have H := H1
              clear H1
              obtain rfl := Option.some.inj H
              go_wp2
              go_ret
              exact ⟨by first | rfl | (simp [errW_none, errW_some] <;> rfl) | (simp [*, errW_none, errW_some] <;> rfl), by repeat (first | (with_reducible first | exact HB.out | apply below_alloc | apply pw_below_drewN | apply below_drew1) | exact HB.out)⟩
            · replace c36 := Bool.eq_false_iff.mpr c36
              subst c36
              have H1 : ((quillworklaw05_spoil.f kj17 t224).bind fun t242 => ((quillworklaw05_spoil.f kj17 t232).bind fun t243 => ((cells_All.f l0 a1 a2 a3).bind fun t244 => ((quillworkref05_All.f kj17 t221 a1 a2 a3).bind fun t245 => (if (t244 == t245) = true then ((cells_Some.f l0 a1 a2 a3).bind fun t246 => ((quillworkref05_Some.f kj17 t221 a1 a2 a3).bind fun t247 => (if (t246 == t247) = true then ((quillworkref05_Same.f kj17 l0 t221).bind fun t248 => (if t248 = true then ((quillworklaw05_awake.f kj17).bind fun t249 => (some t249)) else (some false))) else (some false)))) else (some false)))))) = some r := by rw [if_neg (show ¬ (false = true) by decide)] at H; exact H
              clear H
              have H := H1
              clear H1
              replace H := Option.bind_eq_some_iff.mp H
              obtain ⟨t242, A370, H⟩ := H
              replace H : ((quillworklaw05_spoil.f kj17 t232).bind fun t243 => ((cells_All.f l0 a1 a2 a3).bind fun t244 => ((quillworkref05_All.f kj17 t221 a1 a2 a3).bind fun t245 => (if (t244 == t245) = true then ((cells_Some.f l0 a1 a2 a3).bind fun t246 => ((quillworkref05_Some.f kj17 t221 a1 a2 a3).bind fun t247 => (if (t246 == t247) = true then ((quillworkref05_Same.f kj17 l0 t221).bind fun t248 => (if t248 = true then ((quillworklaw05_awake.f kj17).bind fun t249 => (some t249)) else (some false))) else (some false)))) else (some false))))) = some r := H
              have A37 := Aside0.mk A370
              clear A370
              replace H := Option.bind_eq_some_iff.mp H
              obtain ⟨t243, A380, H⟩ := H
              replace H : ((cells_All.f l0 a1 a2 a3).bind fun t244 => ((quillworkref05_All.f kj17 t221 a1 a2 a3).bind fun t245 => (if (t244 == t245) = true then ((cells_Some.f l0 a1 a2 a3).bind fun t246 => ((quillworkref05_Some.f kj17 t221 a1 a2 a3).bind fun t247 => (if (t246 == t247) = true then ((quillworkref05_Same.f kj17 l0 t221).bind fun t248 => (if t248 = true then ((quillworklaw05_awake.f kj17).bind fun t249 => (some t249)) else (some false))) else (some false)))) else (some false)))) = some r := H
              have A38 := Aside0.mk A380
              clear A380
              replace H := Option.bind_eq_some_iff.mp H
              obtain ⟨t244, A390, H⟩ := H
              replace H : ((quillworkref05_All.f kj17 t221 a1 a2 a3).bind fun t245 => (if (t244 == t245) = true then ((cells_Some.f l0 a1 a2 a3).bind fun t246 => ((quillworkref05_Some.f kj17 t221 a1 a2 a3).bind fun t247 => (if (t246 == t247) = true then ((quillworkref05_Same.f kj17 l0 t221).bind fun t248 => (if t248 = true then ((quillworklaw05_awake.f kj17).bind fun t249 => (some t249)) else (some false))) else (some false)))) else (some false))) = some r := H
              have A39 := Aside0.mk A390
              clear A390
              replace H := Option.bind_eq_some_iff.mp H
              obtain ⟨t245, A400, H⟩ := H
              replace H : (if (t244 == t245) = true then ((cells_Some.f l0 a1 a2 a3).bind fun t246 => ((quillworkref05_Some.f kj17 t221 a1 a2 a3).bind fun t247 => (if (t246 == t247) = true then ((quillworkref05_Same.f kj17 l0 t221).bind fun t248 => (if t248 = true then ((quillworklaw05_awake.f kj17).bind fun t249 => (some t249)) else (some false))) else (some false)))) else (some false)) = some r := H
              have A40 := Aside0.mk A400
              clear A400
              by_cases c41 : (t244 == t245) = true
              · rw [if_pos c41] at H
                have c41b0 : (t244 == t245) = true := c41
                (try (have c41b1 : decide (t244 = t245) = true := by simpa using c41))
                (try (have c41b2 : (t244 == t245) = true := by simpa using c41))
                clear c41
                replace H := Option.bind_eq_some_iff.mp H
                obtain ⟨t246, A420, H⟩ := H
                replace H : ((quillworkref05_Some.f kj17 t221 a1 a2 a3).bind fun t247 => (if (t246 == t247) = true then ((quillworkref05_Same.f kj17 l0 t221).bind fun t248 => (if t248 = true then ((quillworklaw05_awake.f kj17).bind fun t249 => (some t249)) else (some false))) else (some false))) = some r := H
                have A42 := Aside0.mk A420
                clear A420
                replace H := Option.bind_eq_some_iff.mp H
                obtain ⟨t247, A430, H⟩ := H
                replace H : (if (t246 == t247) = true then ((quillworkref05_Same.f kj17 l0 t221).bind fun t248 => (if t248 = true then ((quillworklaw05_awake.f kj17).bind fun t249 => (some t249)) else (some false))) else (some false)) = some r := H
                have A43 := Aside0.mk A430
                clear A430
                by_cases c44 : (t246 == t247) = true
                · rw [if_pos c44] at H
                  have c44b0 : (t246 == t247) = true := c44
                  (try (have c44b1 : decide (t246 = t247) = true := by simpa using c44))
                  (try (have c44b2 : (t246 == t247) = true := by simpa using c44))
                  clear c44
                  replace H := Option.bind_eq_some_iff.mp H
                  obtain ⟨t248, A450, H⟩ := H
                  replace H : (if t248 = true then ((quillworklaw05_awake.f kj17).bind fun t249 => (some t249)) else (some false)) = some r := H
                  have A45 := Aside0.mk A450
                  clear A450
                  by_cases c46 : t248 = true
                  · subst c46
                    have H1 : ((quillworklaw05_awake.f kj17).bind fun t249 => (some t249)) = some r := by rw [if_pos rfl] at H; exact H
                    clear H
                    have H := H1
                    clear H1
                    replace H := Option.bind_eq_some_iff.mp H
                    obtain ⟨t249, A470, H⟩ := H
                    replace H : (some t249) = some r := H
                    have A47 := Aside0.mk A470
                    clear A470
                    obtain rfl := Option.some.inj H
                    obtain ⟨Ao48, co48, eo48⟩ := Kd.R_slice HO_14.out
                    subst eo48
                    go_wp2_with (first | ((with_reducible refine gate_callee (f := 60) rfl ?_); refine goesL_ (some 87) rfl rfl Tryd.func60 (by kernel_rfl) rfl #[.slice Ao48 t224.length co48] rfl (by (try simp only [List.map_toArray, List.map_cons, List.map_nil]); first | done | rfl | (simp only [List.length_drop, List.length_take]; rfl)) ?_; (with_reducible refine (quillworklaw05_spoil.calls kj17 (fun k_ => some k_ = (.slice Ao48 t224.length co48 : Value).ownBlock) (.slice Ao48 t224.length co48) t224 t242 w _ ?side1 ?side2 A37.out).mono ?_); (case side1 => repeat (first | (with_reducible first | exact HB.out | apply below_alloc | apply pw_below_drewN | apply below_drew1) | exact HB.out)); (case side2 => exact Kd.R_tight rfl HO_14.out); rintro e w49 ⟨rfl, hy0, hb, hkp⟩; refine ⟨_, rfl, ?_⟩; have n0_ := Aside0.mk (Kd.R_mono (ok' := fun k_ => some k_ ≠ (.slice Ao48 t224.length co48 : Value).ownBlock ∧ some k_ ≠ (v234 : Value).ownBlock) (Kd.R_keptB (HO_13.out) hkp (fun k_ hk_ hs_ => (hk_.1) hs_)) (fun k_ hk_ => ⟨hk_.1.1, hk_.1.2⟩)); have n1_ := Aside0.mk (Kd.R_reok rfl hy0 (fun k_ e_ => HO_14.out.1 k_ e_)); have n2_ := Aside0.mk (Kd.R_mono (ok' := fun k_ => some k_ ≠ (.slice Ao21 t221.length co21 : Value).ownBlock ∧ some k_ ≠ (.slice Ao48 t224.length co48 : Value).ownBlock) (Kd.R_keptB (HO_18.out) hkp (fun k_ hk_ hs_ => (hk_.2) hs_)) (fun k_ hk_ => ⟨hk_.1.1, hk_.1.2⟩)); have n3_ := Aside0.mk (hb); clear HO_13; clear HO_14; clear HO_18; clear HB; have HO_13 := n0_; have HO_14 := n1_; have HO_18 := n2_; have HB := n3_; clear n0_ n1_ n2_ n3_; (try clear hb); (try clear hkp); (try clear hy0); obtain ⟨Ao50, co50, eo50⟩ := Kd.R_slice HO_18.out; subst eo50) | ((with_reducible refine gate_callee (f := 60) rfl ?_); refine goesL_ (some 89) rfl rfl Tryd.func60 (by kernel_rfl) rfl #[.slice Ao50 t232.length co50] rfl (by (try simp only [List.map_toArray, List.map_cons, List.map_nil]); first | done | rfl | (simp only [List.length_drop, List.length_take]; rfl)) ?_; (with_reducible refine (quillworklaw05_spoil.calls kj17 (fun k_ => some k_ = (.slice Ao50 t232.length co50 : Value).ownBlock) (.slice Ao50 t232.length co50) t232 t243 w _ ?side1 ?side2 A38.out).mono ?_); (case side1 => repeat (first | (with_reducible first | exact HB.out | apply below_alloc | apply pw_below_drewN | apply below_drew1) | exact HB.out)); (case side2 => exact Kd.R_tight rfl HO_18.out); rintro e w51 ⟨rfl, hy0, hb, hkp⟩; refine ⟨_, rfl, ?_⟩; have n0_ := Aside0.mk (Kd.R_mono (ok' := fun k_ => some k_ ≠ (.slice Ao48 t224.length co48 : Value).ownBlock ∧ some k_ ≠ (.slice Ao50 t232.length co50 : Value).ownBlock) (Kd.R_keptB (HO_13.out) hkp (fun k_ hk_ hs_ => (hk_.2) hs_)) (fun k_ hk_ => ⟨hk_.1.1, hk_.1.2⟩)); have n1_ := Aside0.mk (Kd.R_mono (ok' := fun k_ => some k_ ≠ (.slice Ao21 t221.length co21 : Value).ownBlock ∧ some k_ ≠ (.slice Ao50 t232.length co50 : Value).ownBlock) (Kd.R_keptB (HO_14.out) hkp (fun k_ hk_ hs_ => (hk_.2) hs_)) (fun k_ hk_ => ⟨hk_.1.1, hk_.1.2⟩)); have n2_ := Aside0.mk (Kd.R_reok rfl hy0 (fun k_ e_ => HO_18.out.1 k_ e_)); have n3_ := Aside0.mk (hb); clear HO_13; clear HO_14; clear HO_18; clear HB; have HO_13 := n0_; have HO_14 := n1_; have HO_18 := n2_; have HB := n3_; clear n0_ n1_ n2_ n3_; (try clear hb); (try clear hkp); (try clear hy0)) | ((with_reducible refine gate_callee (f := 61) rfl ?_); refine goesL_ (some 94) rfl rfl Tryd.func61 (by kernel_rfl) rfl #[.slice A0 l0.length c0, .int .i64 a1, .int .i64 a2, .int .i64 a3] rfl (by (try simp only [List.map_toArray, List.map_cons, List.map_nil]); first | done | rfl | (simp only [List.length_drop, List.length_take]; rfl)) ?_; (with_reducible refine (cells_All.calls _ _ l0 a1 a2 a3 t244 _ ?side1 ?side2 A39.out).mono ?_); (case side1 => repeat (first | exact (Kd.C_below HR0.out HB.out) | (with_reducible refine Kd.C_alloc ?_ _) | (with_reducible refine Kd.C_drewN ?_ _) | (with_reducible refine Kd.C_drew ?_))); (case side2 => exact HC0.out); rintro e w52 ⟨rfl, hb⟩; refine ⟨_, rfl, ?_⟩; have n0_ := Aside0.mk (Kd.R_below (by (with_reducible repeat (first | apply Kd.R_alloc | apply Kd.R_drewN | apply Kd.R_drew)); exact HO_13.out) hb); have n1_ := Aside0.mk (Kd.R_below (by (with_reducible repeat (first | apply Kd.R_alloc | apply Kd.R_drewN | apply Kd.R_drew)); exact HO_14.out) hb); have n2_ := Aside0.mk (Kd.R_below (by (with_reducible repeat (first | apply Kd.R_alloc | apply Kd.R_drewN | apply Kd.R_drew)); exact HO_18.out) hb); have n3_ := Aside0.mk (below_step (by repeat (first | (with_reducible first | exact HB.out | apply below_alloc | apply pw_below_drewN | apply below_drew1) | exact HB.out)) hb); clear HO_13; clear HO_14; clear HO_18; clear HB; have HO_13 := n0_; have HO_14 := n1_; have HO_18 := n2_; have HB := n3_; clear n0_ n1_ n2_ n3_; (try clear hb); (try clear hb2); (try clear hk); (try clear hi)) | ((with_reducible refine gate_callee (f := 62) rfl ?_); refine goesL_ (some 99) rfl rfl Tryd.func62 (by kernel_rfl) rfl #[.slice Ao21 t221.length co21, .int .i64 a1, .int .i64 a2, .int .i64 a3] rfl (by (try simp only [List.map_toArray, List.map_cons, List.map_nil]); first | done | rfl | (simp only [List.length_drop, List.length_take]; rfl)) ?_; (with_reducible refine (quillworkref05_All.calls kj17 _ _ t221 a1 a2 a3 t245 _ ?side1 ?side2 A40.out).mono ?_); (case side1 => repeat (first | exact (Kd.R_reads' HO_13.out).2.2 | (with_reducible refine Kd.C_alloc ?_ _) | (with_reducible refine Kd.C_drewN ?_ _) | (with_reducible refine Kd.C_drew ?_))); (case side2 => exact (Kd.R_reads' HO_13.out).2.1); rintro e w' ⟨rfl, ⟨nd, rfl⟩⟩; refine ⟨_, rfl, ?_⟩) | (go_at_call 63; (with_reducible refine (cells_Some.calls _ _ l0 a1 a2 a3 t246 _ ?side1 ?side2 A42.out).mono ?_); (case side1 => repeat (first | exact (Kd.C_below HR0.out (by repeat (first | (with_reducible first | exact HB.out | apply below_alloc | apply pw_below_drewN | apply below_drew1) | exact HB.out))) | (with_reducible refine Kd.C_alloc ?_ _) | (with_reducible refine Kd.C_drewN ?_ _) | (with_reducible refine Kd.C_drew ?_))); (case side2 => exact HC0.out); rintro e w53 ⟨rfl, hb⟩; have n0_ := Aside0.mk (Kd.R_below (by (with_reducible repeat (first | apply Kd.R_alloc | apply Kd.R_drewN | apply Kd.R_drew)); exact HO_13.out) hb); have n1_ := Aside0.mk (Kd.R_below (by (with_reducible repeat (first | apply Kd.R_alloc | apply Kd.R_drewN | apply Kd.R_drew)); exact HO_14.out) hb); have n2_ := Aside0.mk (Kd.R_below (by (with_reducible repeat (first | apply Kd.R_alloc | apply Kd.R_drewN | apply Kd.R_drew)); exact HO_18.out) hb); have n3_ := Aside0.mk (below_step (by repeat (first | (with_reducible first | exact HB.out | apply below_alloc | apply pw_below_drewN | apply below_drew1) | exact HB.out)) hb); clear HO_13; clear HO_14; clear HO_18; clear HB; have HO_13 := n0_; have HO_14 := n1_; have HO_18 := n2_; have HB := n3_; clear n0_ n1_ n2_ n3_; (try clear hb); (try clear hb2); (try clear hk); (try clear hi)) | (go_at_call 64; (with_reducible refine (quillworkref05_Some.calls kj17 _ _ t221 a1 a2 a3 t247 _ ?side1 ?side2 A43.out).mono ?_); (case side1 => repeat (first | exact (Kd.R_reads' HO_13.out).2.2 | (with_reducible refine Kd.C_alloc ?_ _) | (with_reducible refine Kd.C_drewN ?_ _) | (with_reducible refine Kd.C_drew ?_))); (case side2 => exact (Kd.R_reads' HO_13.out).2.1); rintro e w' ⟨rfl, ⟨nd, rfl⟩⟩) | (go_at_call 36; (with_reducible refine (quillworkref05_Same.calls kj17 _ _ l0 _ _ t221 true _ ?side1 ?side2 ?side3 ?side4 A45.out).mono ?_); (case side1 => repeat (first | exact (Kd.C_below HR0.out (by repeat (first | (with_reducible first | exact HB.out | apply below_alloc | apply pw_below_drewN | apply below_drew1) | exact HB.out))) | (with_reducible refine Kd.C_alloc ?_ _) | (with_reducible refine Kd.C_drewN ?_ _) | (with_reducible refine Kd.C_drew ?_))); (case side2 => exact HC0.out); (case side3 => repeat (first | exact (Kd.R_reads' HO_13.out).2.2 | (with_reducible refine Kd.C_alloc ?_ _) | (with_reducible refine Kd.C_drewN ?_ _) | (with_reducible refine Kd.C_drew ?_))); (case side4 => exact (Kd.R_reads' HO_13.out).2.1); rintro e w' ⟨rfl, ⟨nd, rfl⟩⟩) | (go_at_call 54; (with_reducible refine (quillworklaw05_awake.calls kj17  t249 _ A47.out).mono ?_); rintro e w54 ⟨rfl, hb⟩; have n0_ := Aside0.mk (Kd.R_below (by (with_reducible repeat (first | apply Kd.R_alloc | apply Kd.R_drewN | apply Kd.R_drew)); exact HO_13.out) hb); have n1_ := Aside0.mk (Kd.R_below (by (with_reducible repeat (first | apply Kd.R_alloc | apply Kd.R_drewN | apply Kd.R_drew)); exact HO_14.out) hb); have n2_ := Aside0.mk (Kd.R_below (by (with_reducible repeat (first | apply Kd.R_alloc | apply Kd.R_drewN | apply Kd.R_drew)); exact HO_18.out) hb); have n3_ := Aside0.mk (below_step (by repeat (first | (with_reducible first | exact HB.out | apply below_alloc | apply pw_below_drewN | apply below_drew1) | exact HB.out)) hb); clear HO_13; clear HO_14; clear HO_18; clear HB; have HO_13 := n0_; have HO_14 := n1_; have HO_18 := n2_; have HB := n3_; clear n0_ n1_ n2_ n3_; (try clear hb); (try clear hb2); (try clear hk); (try clear hi)))
                    go_ret
                    exact ⟨by first | rfl | (simp [errW_none, errW_some] <;> rfl) | (simp [*, errW_none, errW_some] <;> rfl), by repeat (first | (with_reducible first | exact HB.out | apply below_alloc | apply pw_below_drewN | apply below_drew1) | exact HB.out)⟩
                  · replace c46 := Bool.eq_false_iff.mpr c46
                    subst c46
                    have H1 : (some false) = some r := by rw [if_neg (show ¬ (false = true) by decide)] at H; exact H
                    clear H
                    have H := H1
                    clear H1
                    obtain rfl := Option.some.inj H
                    obtain ⟨Ao55, co55, eo55⟩ := Kd.R_slice HO_14.out
                    subst eo55
                    go_wp2_with (first | ((with_reducible refine gate_callee (f := 60) rfl ?_); refine goesL_ (some 87) rfl rfl Tryd.func60 (by kernel_rfl) rfl #[.slice Ao55 t224.length co55] rfl (by (try simp only [List.map_toArray, List.map_cons, List.map_nil]); first | done | rfl | (simp only [List.length_drop, List.length_take]; rfl)) ?_; (with_reducible refine (quillworklaw05_spoil.calls kj17 (fun k_ => some k_ = (.slice Ao55 t224.length co55 : Value).ownBlock) (.slice Ao55 t224.length co55) t224 t242 w _ ?side1 ?side2 A37.out).mono ?_); (case side1 => repeat (first | (with_reducible first | exact HB.out | apply below_alloc | apply pw_below_drewN | apply below_drew1) | exact HB.out)); (case side2 => exact Kd.R_tight rfl HO_14.out); rintro e w56 ⟨rfl, hy0, hb, hkp⟩; refine ⟨_, rfl, ?_⟩; have n0_ := Aside0.mk (Kd.R_mono (ok' := fun k_ => some k_ ≠ (.slice Ao55 t224.length co55 : Value).ownBlock ∧ some k_ ≠ (v234 : Value).ownBlock) (Kd.R_keptB (HO_13.out) hkp (fun k_ hk_ hs_ => (hk_.1) hs_)) (fun k_ hk_ => ⟨hk_.1.1, hk_.1.2⟩)); have n1_ := Aside0.mk (Kd.R_reok rfl hy0 (fun k_ e_ => HO_14.out.1 k_ e_)); have n2_ := Aside0.mk (Kd.R_mono (ok' := fun k_ => some k_ ≠ (.slice Ao21 t221.length co21 : Value).ownBlock ∧ some k_ ≠ (.slice Ao55 t224.length co55 : Value).ownBlock) (Kd.R_keptB (HO_18.out) hkp (fun k_ hk_ hs_ => (hk_.2) hs_)) (fun k_ hk_ => ⟨hk_.1.1, hk_.1.2⟩)); have n3_ := Aside0.mk (hb); clear HO_13; clear HO_14; clear HO_18; clear HB; have HO_13 := n0_; have HO_14 := n1_; have HO_18 := n2_; have HB := n3_; clear n0_ n1_ n2_ n3_; (try clear hb); (try clear hkp); (try clear hy0); obtain ⟨Ao57, co57, eo57⟩ := Kd.R_slice HO_18.out; subst eo57) | ((with_reducible refine gate_callee (f := 60) rfl ?_); refine goesL_ (some 89) rfl rfl Tryd.func60 (by kernel_rfl) rfl #[.slice Ao57 t232.length co57] rfl (by (try simp only [List.map_toArray, List.map_cons, List.map_nil]); first | done | rfl | (simp only [List.length_drop, List.length_take]; rfl)) ?_; (with_reducible refine (quillworklaw05_spoil.calls kj17 (fun k_ => some k_ = (.slice Ao57 t232.length co57 : Value).ownBlock) (.slice Ao57 t232.length co57) t232 t243 w _ ?side1 ?side2 A38.out).mono ?_); (case side1 => repeat (first | (with_reducible first | exact HB.out | apply below_alloc | apply pw_below_drewN | apply below_drew1) | exact HB.out)); (case side2 => exact Kd.R_tight rfl HO_18.out); rintro e w58 ⟨rfl, hy0, hb, hkp⟩; refine ⟨_, rfl, ?_⟩; have n0_ := Aside0.mk (Kd.R_mono (ok' := fun k_ => some k_ ≠ (.slice Ao55 t224.length co55 : Value).ownBlock ∧ some k_ ≠ (.slice Ao57 t232.length co57 : Value).ownBlock) (Kd.R_keptB (HO_13.out) hkp (fun k_ hk_ hs_ => (hk_.2) hs_)) (fun k_ hk_ => ⟨hk_.1.1, hk_.1.2⟩)); have n1_ := Aside0.mk (Kd.R_mono (ok' := fun k_ => some k_ ≠ (.slice Ao21 t221.length co21 : Value).ownBlock ∧ some k_ ≠ (.slice Ao57 t232.length co57 : Value).ownBlock) (Kd.R_keptB (HO_14.out) hkp (fun k_ hk_ hs_ => (hk_.2) hs_)) (fun k_ hk_ => ⟨hk_.1.1, hk_.1.2⟩)); have n2_ := Aside0.mk (Kd.R_reok rfl hy0 (fun k_ e_ => HO_18.out.1 k_ e_)); have n3_ := Aside0.mk (hb); clear HO_13; clear HO_14; clear HO_18; clear HB; have HO_13 := n0_; have HO_14 := n1_; have HO_18 := n2_; have HB := n3_; clear n0_ n1_ n2_ n3_; (try clear hb); (try clear hkp); (try clear hy0)) | ((with_reducible refine gate_callee (f := 61) rfl ?_); refine goesL_ (some 94) rfl rfl Tryd.func61 (by kernel_rfl) rfl #[.slice A0 l0.length c0, .int .i64 a1, .int .i64 a2, .int .i64 a3] rfl (by (try simp only [List.map_toArray, List.map_cons, List.map_nil]); first | done | rfl | (simp only [List.length_drop, List.length_take]; rfl)) ?_; (with_reducible refine (cells_All.calls _ _ l0 a1 a2 a3 t244 _ ?side1 ?side2 A39.out).mono ?_); (case side1 => repeat (first | exact (Kd.C_below HR0.out HB.out) | (with_reducible refine Kd.C_alloc ?_ _) | (with_reducible refine Kd.C_drewN ?_ _) | (with_reducible refine Kd.C_drew ?_))); (case side2 => exact HC0.out); rintro e w59 ⟨rfl, hb⟩; refine ⟨_, rfl, ?_⟩; have n0_ := Aside0.mk (Kd.R_below (by (with_reducible repeat (first | apply Kd.R_alloc | apply Kd.R_drewN | apply Kd.R_drew)); exact HO_13.out) hb); have n1_ := Aside0.mk (Kd.R_below (by (with_reducible repeat (first | apply Kd.R_alloc | apply Kd.R_drewN | apply Kd.R_drew)); exact HO_14.out) hb); have n2_ := Aside0.mk (Kd.R_below (by (with_reducible repeat (first | apply Kd.R_alloc | apply Kd.R_drewN | apply Kd.R_drew)); exact HO_18.out) hb); have n3_ := Aside0.mk (below_step (by repeat (first | (with_reducible first | exact HB.out | apply below_alloc | apply pw_below_drewN | apply below_drew1) | exact HB.out)) hb); clear HO_13; clear HO_14; clear HO_18; clear HB; have HO_13 := n0_; have HO_14 := n1_; have HO_18 := n2_; have HB := n3_; clear n0_ n1_ n2_ n3_; (try clear hb); (try clear hb2); (try clear hk); (try clear hi)) | ((with_reducible refine gate_callee (f := 62) rfl ?_); refine goesL_ (some 99) rfl rfl Tryd.func62 (by kernel_rfl) rfl #[.slice Ao21 t221.length co21, .int .i64 a1, .int .i64 a2, .int .i64 a3] rfl (by (try simp only [List.map_toArray, List.map_cons, List.map_nil]); first | done | rfl | (simp only [List.length_drop, List.length_take]; rfl)) ?_; (with_reducible refine (quillworkref05_All.calls kj17 _ _ t221 a1 a2 a3 t245 _ ?side1 ?side2 A40.out).mono ?_); (case side1 => repeat (first | exact (Kd.R_reads' HO_13.out).2.2 | (with_reducible refine Kd.C_alloc ?_ _) | (with_reducible refine Kd.C_drewN ?_ _) | (with_reducible refine Kd.C_drew ?_))); (case side2 => exact (Kd.R_reads' HO_13.out).2.1); rintro e w' ⟨rfl, ⟨nd, rfl⟩⟩; refine ⟨_, rfl, ?_⟩) | (go_at_call 63; (with_reducible refine (cells_Some.calls _ _ l0 a1 a2 a3 t246 _ ?side1 ?side2 A42.out).mono ?_); (case side1 => repeat (first | exact (Kd.C_below HR0.out (by repeat (first | (with_reducible first | exact HB.out | apply below_alloc | apply pw_below_drewN | apply below_drew1) | exact HB.out))) | (with_reducible refine Kd.C_alloc ?_ _) | (with_reducible refine Kd.C_drewN ?_ _) | (with_reducible refine Kd.C_drew ?_))); (case side2 => exact HC0.out); rintro e w60 ⟨rfl, hb⟩; have n0_ := Aside0.mk (Kd.R_below (by (with_reducible repeat (first | apply Kd.R_alloc | apply Kd.R_drewN | apply Kd.R_drew)); exact HO_13.out) hb); have n1_ := Aside0.mk (Kd.R_below (by (with_reducible repeat (first | apply Kd.R_alloc | apply Kd.R_drewN | apply Kd.R_drew)); exact HO_14.out) hb); have n2_ := Aside0.mk (Kd.R_below (by (with_reducible repeat (first | apply Kd.R_alloc | apply Kd.R_drewN | apply Kd.R_drew)); exact HO_18.out) hb); have n3_ := Aside0.mk (below_step (by repeat (first | (with_reducible first | exact HB.out | apply below_alloc | apply pw_below_drewN | apply below_drew1) | exact HB.out)) hb); clear HO_13; clear HO_14; clear HO_18; clear HB; have HO_13 := n0_; have HO_14 := n1_; have HO_18 := n2_; have HB := n3_; clear n0_ n1_ n2_ n3_; (try clear hb); (try clear hb2); (try clear hk); (try clear hi)) | (go_at_call 64; (with_reducible refine (quillworkref05_Some.calls kj17 _ _ t221 a1 a2 a3 t247 _ ?side1 ?side2 A43.out).mono ?_); (case side1 => repeat (first | exact (Kd.R_reads' HO_13.out).2.2 | (with_reducible refine Kd.C_alloc ?_ _) | (with_reducible refine Kd.C_drewN ?_ _) | (with_reducible refine Kd.C_drew ?_))); (case side2 => exact (Kd.R_reads' HO_13.out).2.1); rintro e w' ⟨rfl, ⟨nd, rfl⟩⟩) | (go_at_call 36; (with_reducible refine (quillworkref05_Same.calls kj17 _ _ l0 _ _ t221 false _ ?side1 ?side2 ?side3 ?side4 A45.out).mono ?_); (case side1 => repeat (first | exact (Kd.C_below HR0.out (by repeat (first | (with_reducible first | exact HB.out | apply below_alloc | apply pw_below_drewN | apply below_drew1) | exact HB.out))) | (with_reducible refine Kd.C_alloc ?_ _) | (with_reducible refine Kd.C_drewN ?_ _) | (with_reducible refine Kd.C_drew ?_))); (case side2 => exact HC0.out); (case side3 => repeat (first | exact (Kd.R_reads' HO_13.out).2.2 | (with_reducible refine Kd.C_alloc ?_ _) | (with_reducible refine Kd.C_drewN ?_ _) | (with_reducible refine Kd.C_drew ?_))); (case side4 => exact (Kd.R_reads' HO_13.out).2.1); rintro e w' ⟨rfl, ⟨nd, rfl⟩⟩))
                    go_ret
                    exact ⟨by first | rfl | (simp [errW_none, errW_some] <;> rfl) | (simp [*, errW_none, errW_some] <;> rfl), by repeat (first | (with_reducible first | exact HB.out | apply below_alloc | apply pw_below_drewN | apply below_drew1) | exact HB.out)⟩
                · rw [if_neg c44] at H
                  have c44b0 : (t246 == t247) = false := by simpa using c44
                  (try (have c44b1 : decide (t246 = t247) = false := by simpa using c44))
                  (try (have c44b2 : (t246 == t247) = false := by simpa using c44))
                  (try (have c44b3 : ¬ (t246 = t247) := by simpa using c44))
                  clear c44
                  obtain rfl := Option.some.inj H
                  obtain ⟨Ao61, co61, eo61⟩ := Kd.R_slice HO_14.out
                  subst eo61
                  go_wp2_with (first | ((with_reducible refine gate_callee (f := 60) rfl ?_); refine goesL_ (some 87) rfl rfl Tryd.func60 (by kernel_rfl) rfl #[.slice Ao61 t224.length co61] rfl (by (try simp only [List.map_toArray, List.map_cons, List.map_nil]); first | done | rfl | (simp only [List.length_drop, List.length_take]; rfl)) ?_; (with_reducible refine (quillworklaw05_spoil.calls kj17 (fun k_ => some k_ = (.slice Ao61 t224.length co61 : Value).ownBlock) (.slice Ao61 t224.length co61) t224 t242 w _ ?side1 ?side2 A37.out).mono ?_); (case side1 => repeat (first | (with_reducible first | exact HB.out | apply below_alloc | apply pw_below_drewN | apply below_drew1) | exact HB.out)); (case side2 => exact Kd.R_tight rfl HO_14.out); rintro e w62 ⟨rfl, hy0, hb, hkp⟩; refine ⟨_, rfl, ?_⟩; have n0_ := Aside0.mk (Kd.R_mono (ok' := fun k_ => some k_ ≠ (.slice Ao61 t224.length co61 : Value).ownBlock ∧ some k_ ≠ (v234 : Value).ownBlock) (Kd.R_keptB (HO_13.out) hkp (fun k_ hk_ hs_ => (hk_.1) hs_)) (fun k_ hk_ => ⟨hk_.1.1, hk_.1.2⟩)); have n1_ := Aside0.mk (Kd.R_reok rfl hy0 (fun k_ e_ => HO_14.out.1 k_ e_)); have n2_ := Aside0.mk (Kd.R_mono (ok' := fun k_ => some k_ ≠ (.slice Ao21 t221.length co21 : Value).ownBlock ∧ some k_ ≠ (.slice Ao61 t224.length co61 : Value).ownBlock) (Kd.R_keptB (HO_18.out) hkp (fun k_ hk_ hs_ => (hk_.2) hs_)) (fun k_ hk_ => ⟨hk_.1.1, hk_.1.2⟩)); have n3_ := Aside0.mk (hb); clear HO_13; clear HO_14; clear HO_18; clear HB; have HO_13 := n0_; have HO_14 := n1_; have HO_18 := n2_; have HB := n3_; clear n0_ n1_ n2_ n3_; (try clear hb); (try clear hkp); (try clear hy0); obtain ⟨Ao63, co63, eo63⟩ := Kd.R_slice HO_18.out; subst eo63) | ((with_reducible refine gate_callee (f := 60) rfl ?_); refine goesL_ (some 89) rfl rfl Tryd.func60 (by kernel_rfl) rfl #[.slice Ao63 t232.length co63] rfl (by (try simp only [List.map_toArray, List.map_cons, List.map_nil]); first | done | rfl | (simp only [List.length_drop, List.length_take]; rfl)) ?_; (with_reducible refine (quillworklaw05_spoil.calls kj17 (fun k_ => some k_ = (.slice Ao63 t232.length co63 : Value).ownBlock) (.slice Ao63 t232.length co63) t232 t243 w _ ?side1 ?side2 A38.out).mono ?_); (case side1 => repeat (first | (with_reducible first | exact HB.out | apply below_alloc | apply pw_below_drewN | apply below_drew1) | exact HB.out)); (case side2 => exact Kd.R_tight rfl HO_18.out); rintro e w64 ⟨rfl, hy0, hb, hkp⟩; refine ⟨_, rfl, ?_⟩; have n0_ := Aside0.mk (Kd.R_mono (ok' := fun k_ => some k_ ≠ (.slice Ao61 t224.length co61 : Value).ownBlock ∧ some k_ ≠ (.slice Ao63 t232.length co63 : Value).ownBlock) (Kd.R_keptB (HO_13.out) hkp (fun k_ hk_ hs_ => (hk_.2) hs_)) (fun k_ hk_ => ⟨hk_.1.1, hk_.1.2⟩)); have n1_ := Aside0.mk (Kd.R_mono (ok' := fun k_ => some k_ ≠ (.slice Ao21 t221.length co21 : Value).ownBlock ∧ some k_ ≠ (.slice Ao63 t232.length co63 : Value).ownBlock) (Kd.R_keptB (HO_14.out) hkp (fun k_ hk_ hs_ => (hk_.2) hs_)) (fun k_ hk_ => ⟨hk_.1.1, hk_.1.2⟩)); have n2_ := Aside0.mk (Kd.R_reok rfl hy0 (fun k_ e_ => HO_18.out.1 k_ e_)); have n3_ := Aside0.mk (hb); clear HO_13; clear HO_14; clear HO_18; clear HB; have HO_13 := n0_; have HO_14 := n1_; have HO_18 := n2_; have HB := n3_; clear n0_ n1_ n2_ n3_; (try clear hb); (try clear hkp); (try clear hy0)) | ((with_reducible refine gate_callee (f := 61) rfl ?_); refine goesL_ (some 94) rfl rfl Tryd.func61 (by kernel_rfl) rfl #[.slice A0 l0.length c0, .int .i64 a1, .int .i64 a2, .int .i64 a3] rfl (by (try simp only [List.map_toArray, List.map_cons, List.map_nil]); first | done | rfl | (simp only [List.length_drop, List.length_take]; rfl)) ?_; (with_reducible refine (cells_All.calls _ _ l0 a1 a2 a3 t244 _ ?side1 ?side2 A39.out).mono ?_); (case side1 => repeat (first | exact (Kd.C_below HR0.out HB.out) | (with_reducible refine Kd.C_alloc ?_ _) | (with_reducible refine Kd.C_drewN ?_ _) | (with_reducible refine Kd.C_drew ?_))); (case side2 => exact HC0.out); rintro e w65 ⟨rfl, hb⟩; refine ⟨_, rfl, ?_⟩; have n0_ := Aside0.mk (Kd.R_below (by (with_reducible repeat (first | apply Kd.R_alloc | apply Kd.R_drewN | apply Kd.R_drew)); exact HO_13.out) hb); have n1_ := Aside0.mk (Kd.R_below (by (with_reducible repeat (first | apply Kd.R_alloc | apply Kd.R_drewN | apply Kd.R_drew)); exact HO_14.out) hb); have n2_ := Aside0.mk (Kd.R_below (by (with_reducible repeat (first | apply Kd.R_alloc | apply Kd.R_drewN | apply Kd.R_drew)); exact HO_18.out) hb); have n3_ := Aside0.mk (below_step (by repeat (first | (with_reducible first | exact HB.out | apply below_alloc | apply pw_below_drewN | apply below_drew1) | exact HB.out)) hb); clear HO_13; clear HO_14; clear HO_18; clear HB; have HO_13 := n0_; have HO_14 := n1_; have HO_18 := n2_; have HB := n3_; clear n0_ n1_ n2_ n3_; (try clear hb); (try clear hb2); (try clear hk); (try clear hi)) | ((with_reducible refine gate_callee (f := 62) rfl ?_); refine goesL_ (some 99) rfl rfl Tryd.func62 (by kernel_rfl) rfl #[.slice Ao21 t221.length co21, .int .i64 a1, .int .i64 a2, .int .i64 a3] rfl (by (try simp only [List.map_toArray, List.map_cons, List.map_nil]); first | done | rfl | (simp only [List.length_drop, List.length_take]; rfl)) ?_; (with_reducible refine (quillworkref05_All.calls kj17 _ _ t221 a1 a2 a3 t245 _ ?side1 ?side2 A40.out).mono ?_); (case side1 => repeat (first | exact (Kd.R_reads' HO_13.out).2.2 | (with_reducible refine Kd.C_alloc ?_ _) | (with_reducible refine Kd.C_drewN ?_ _) | (with_reducible refine Kd.C_drew ?_))); (case side2 => exact (Kd.R_reads' HO_13.out).2.1); rintro e w' ⟨rfl, ⟨nd, rfl⟩⟩; refine ⟨_, rfl, ?_⟩) | (go_at_call 63; (with_reducible refine (cells_Some.calls _ _ l0 a1 a2 a3 t246 _ ?side1 ?side2 A42.out).mono ?_); (case side1 => repeat (first | exact (Kd.C_below HR0.out (by repeat (first | (with_reducible first | exact HB.out | apply below_alloc | apply pw_below_drewN | apply below_drew1) | exact HB.out))) | (with_reducible refine Kd.C_alloc ?_ _) | (with_reducible refine Kd.C_drewN ?_ _) | (with_reducible refine Kd.C_drew ?_))); (case side2 => exact HC0.out); rintro e w66 ⟨rfl, hb⟩; have n0_ := Aside0.mk (Kd.R_below (by (with_reducible repeat (first | apply Kd.R_alloc | apply Kd.R_drewN | apply Kd.R_drew)); exact HO_13.out) hb); have n1_ := Aside0.mk (Kd.R_below (by (with_reducible repeat (first | apply Kd.R_alloc | apply Kd.R_drewN | apply Kd.R_drew)); exact HO_14.out) hb); have n2_ := Aside0.mk (Kd.R_below (by (with_reducible repeat (first | apply Kd.R_alloc | apply Kd.R_drewN | apply Kd.R_drew)); exact HO_18.out) hb); have n3_ := Aside0.mk (below_step (by repeat (first | (with_reducible first | exact HB.out | apply below_alloc | apply pw_below_drewN | apply below_drew1) | exact HB.out)) hb); clear HO_13; clear HO_14; clear HO_18; clear HB; have HO_13 := n0_; have HO_14 := n1_; have HO_18 := n2_; have HB := n3_; clear n0_ n1_ n2_ n3_; (try clear hb); (try clear hb2); (try clear hk); (try clear hi)) | (go_at_call 64; (with_reducible refine (quillworkref05_Some.calls kj17 _ _ t221 a1 a2 a3 t247 _ ?side1 ?side2 A43.out).mono ?_); (case side1 => repeat (first | exact (Kd.R_reads' HO_13.out).2.2 | (with_reducible refine Kd.C_alloc ?_ _) | (with_reducible refine Kd.C_drewN ?_ _) | (with_reducible refine Kd.C_drew ?_))); (case side2 => exact (Kd.R_reads' HO_13.out).2.1); rintro e w' ⟨rfl, ⟨nd, rfl⟩⟩))
                  go_ret
                  exact ⟨by first | rfl | (simp [errW_none, errW_some] <;> rfl) | (simp [*, errW_none, errW_some] <;> rfl), by repeat (first | (with_reducible first | exact HB.out | apply below_alloc | apply pw_below_drewN | apply below_drew1) | exact HB.out)⟩
              · rw [if_neg c41] at H
                have c41b0 : (t244 == t245) = false := by simpa using c41
                (try (have c41b1 : decide (t244 = t245) = false := by simpa using c41))
                (try (have c41b2 : (t244 == t245) = false := by simpa using c41))
                (try (have c41b3 : ¬ (t244 = t245) := by simpa using c41))
                clear c41
                obtain rfl := Option.some.inj H
                obtain ⟨Ao67, co67, eo67⟩ := Kd.R_slice HO_14.out
                subst eo67
                go_wp2_with (first | ((with_reducible refine gate_callee (f := 60) rfl ?_); refine goesL_ (some 87) rfl rfl Tryd.func60 (by kernel_rfl) rfl #[.slice Ao67 t224.length co67] rfl (by (try simp only [List.map_toArray, List.map_cons, List.map_nil]); first | done | rfl | (simp only [List.length_drop, List.length_take]; rfl)) ?_; (with_reducible refine (quillworklaw05_spoil.calls kj17 (fun k_ => some k_ = (.slice Ao67 t224.length co67 : Value).ownBlock) (.slice Ao67 t224.length co67) t224 t242 w _ ?side1 ?side2 A37.out).mono ?_); (case side1 => repeat (first | (with_reducible first | exact HB.out | apply below_alloc | apply pw_below_drewN | apply below_drew1) | exact HB.out)); (case side2 => exact Kd.R_tight rfl HO_14.out); rintro e w68 ⟨rfl, hy0, hb, hkp⟩; refine ⟨_, rfl, ?_⟩; have n0_ := Aside0.mk (Kd.R_mono (ok' := fun k_ => some k_ ≠ (.slice Ao67 t224.length co67 : Value).ownBlock ∧ some k_ ≠ (v234 : Value).ownBlock) (Kd.R_keptB (HO_13.out) hkp (fun k_ hk_ hs_ => (hk_.1) hs_)) (fun k_ hk_ => ⟨hk_.1.1, hk_.1.2⟩)); have n1_ := Aside0.mk (Kd.R_reok rfl hy0 (fun k_ e_ => HO_14.out.1 k_ e_)); have n2_ := Aside0.mk (Kd.R_mono (ok' := fun k_ => some k_ ≠ (.slice Ao21 t221.length co21 : Value).ownBlock ∧ some k_ ≠ (.slice Ao67 t224.length co67 : Value).ownBlock) (Kd.R_keptB (HO_18.out) hkp (fun k_ hk_ hs_ => (hk_.2) hs_)) (fun k_ hk_ => ⟨hk_.1.1, hk_.1.2⟩)); have n3_ := Aside0.mk (hb); clear HO_13; clear HO_14; clear HO_18; clear HB; have HO_13 := n0_; have HO_14 := n1_; have HO_18 := n2_; have HB := n3_; clear n0_ n1_ n2_ n3_; (try clear hb); (try clear hkp); (try clear hy0); obtain ⟨Ao69, co69, eo69⟩ := Kd.R_slice HO_18.out; subst eo69) | ((with_reducible refine gate_callee (f := 60) rfl ?_); refine goesL_ (some 89) rfl rfl Tryd.func60 (by kernel_rfl) rfl #[.slice Ao69 t232.length co69] rfl (by (try simp only [List.map_toArray, List.map_cons, List.map_nil]); first | done | rfl | (simp only [List.length_drop, List.length_take]; rfl)) ?_; (with_reducible refine (quillworklaw05_spoil.calls kj17 (fun k_ => some k_ = (.slice Ao69 t232.length co69 : Value).ownBlock) (.slice Ao69 t232.length co69) t232 t243 w _ ?side1 ?side2 A38.out).mono ?_); (case side1 => repeat (first | (with_reducible first | exact HB.out | apply below_alloc | apply pw_below_drewN | apply below_drew1) | exact HB.out)); (case side2 => exact Kd.R_tight rfl HO_18.out); rintro e w70 ⟨rfl, hy0, hb, hkp⟩; refine ⟨_, rfl, ?_⟩; have n0_ := Aside0.mk (Kd.R_mono (ok' := fun k_ => some k_ ≠ (.slice Ao67 t224.length co67 : Value).ownBlock ∧ some k_ ≠ (.slice Ao69 t232.length co69 : Value).ownBlock) (Kd.R_keptB (HO_13.out) hkp (fun k_ hk_ hs_ => (hk_.2) hs_)) (fun k_ hk_ => ⟨hk_.1.1, hk_.1.2⟩)); have n1_ := Aside0.mk (Kd.R_mono (ok' := fun k_ => some k_ ≠ (.slice Ao21 t221.length co21 : Value).ownBlock ∧ some k_ ≠ (.slice Ao69 t232.length co69 : Value).ownBlock) (Kd.R_keptB (HO_14.out) hkp (fun k_ hk_ hs_ => (hk_.2) hs_)) (fun k_ hk_ => ⟨hk_.1.1, hk_.1.2⟩)); have n2_ := Aside0.mk (Kd.R_reok rfl hy0 (fun k_ e_ => HO_18.out.1 k_ e_)); have n3_ := Aside0.mk (hb); clear HO_13; clear HO_14; clear HO_18; clear HB; have HO_13 := n0_; have HO_14 := n1_; have HO_18 := n2_; have HB := n3_; clear n0_ n1_ n2_ n3_; (try clear hb); (try clear hkp); (try clear hy0)) | ((with_reducible refine gate_callee (f := 61) rfl ?_); refine goesL_ (some 94) rfl rfl Tryd.func61 (by kernel_rfl) rfl #[.slice A0 l0.length c0, .int .i64 a1, .int .i64 a2, .int .i64 a3] rfl (by (try simp only [List.map_toArray, List.map_cons, List.map_nil]); first | done | rfl | (simp only [List.length_drop, List.length_take]; rfl)) ?_; (with_reducible refine (cells_All.calls _ _ l0 a1 a2 a3 t244 _ ?side1 ?side2 A39.out).mono ?_); (case side1 => repeat (first | exact (Kd.C_below HR0.out HB.out) | (with_reducible refine Kd.C_alloc ?_ _) | (with_reducible refine Kd.C_drewN ?_ _) | (with_reducible refine Kd.C_drew ?_))); (case side2 => exact HC0.out); rintro e w71 ⟨rfl, hb⟩; refine ⟨_, rfl, ?_⟩; have n0_ := Aside0.mk (Kd.R_below (by (with_reducible repeat (first | apply Kd.R_alloc | apply Kd.R_drewN | apply Kd.R_drew)); exact HO_13.out) hb); have n1_ := Aside0.mk (Kd.R_below (by (with_reducible repeat (first | apply Kd.R_alloc | apply Kd.R_drewN | apply Kd.R_drew)); exact HO_14.out) hb); have n2_ := Aside0.mk (Kd.R_below (by (with_reducible repeat (first | apply Kd.R_alloc | apply Kd.R_drewN | apply Kd.R_drew)); exact HO_18.out) hb); have n3_ := Aside0.mk (below_step (by repeat (first | (with_reducible first | exact HB.out | apply below_alloc | apply pw_below_drewN | apply below_drew1) | exact HB.out)) hb); clear HO_13; clear HO_14; clear HO_18; clear HB; have HO_13 := n0_; have HO_14 := n1_; have HO_18 := n2_; have HB := n3_; clear n0_ n1_ n2_ n3_; (try clear hb); (try clear hb2); (try clear hk); (try clear hi)) | ((with_reducible refine gate_callee (f := 62) rfl ?_); refine goesL_ (some 99) rfl rfl Tryd.func62 (by kernel_rfl) rfl #[.slice Ao21 t221.length co21, .int .i64 a1, .int .i64 a2, .int .i64 a3] rfl (by (try simp only [List.map_toArray, List.map_cons, List.map_nil]); first | done | rfl | (simp only [List.length_drop, List.length_take]; rfl)) ?_; (with_reducible refine (quillworkref05_All.calls kj17 _ _ t221 a1 a2 a3 t245 _ ?side1 ?side2 A40.out).mono ?_); (case side1 => repeat (first | exact (Kd.R_reads' HO_13.out).2.2 | (with_reducible refine Kd.C_alloc ?_ _) | (with_reducible refine Kd.C_drewN ?_ _) | (with_reducible refine Kd.C_drew ?_))); (case side2 => exact (Kd.R_reads' HO_13.out).2.1); rintro e w' ⟨rfl, ⟨nd, rfl⟩⟩; refine ⟨_, rfl, ?_⟩))
                go_ret
                exact ⟨by first | rfl | (simp [errW_none, errW_some] <;> rfl) | (simp [*, errW_none, errW_some] <;> rfl), by repeat (first | (with_reducible first | exact HB.out | apply below_alloc | apply pw_below_drewN | apply below_drew1) | exact HB.out)⟩

end Go.Proofs.YtgdpknmffohhaaaDoor.Pl

/- What the plain laws of the seat share: the chapter's examples, and whether there are more cells than are gone through. -/
namespace Go.Proofs.YtgdpknmffohhaaaDoor.Pure
open Go.RowKit Go.Proofs.YtgdpknmffohhaaaDoor.Pl Go.Proofs.YtgdpknmffohhaaaDoorW.PrintWords Go.Proofs.YtgdpknmffohhaaaDoorW.PrintLast Go.Proofs.YtgdpknmffohhaaaDoorW.PrintMore
theorem w64_ (n : Int) (h : -9223372036854775808 ≤ n ∧ n ≤ 9223372036854775807) : wrap64 n = n := by unfold wrap64; omega
theorem rd_some_ {l : List S71} {i : Nat} {c : S71} (h : l[i]? = some c) : rd_T71 l (i : Int) = c := by
  unfold rd_T71
  rw [List.getD_eq_getElem?_getD, Int.toNat_natCast, h]
  rfl
theorem awake_ : Ev (fun k => quillworklaw05_awake.f k) true := Ev.of quillworklaw05_awake.mono (k := 30) (by kernel_rfl)
theorem long_loop_ (l : List S71) (hl : ∀ x ∈ l, CellOk_ x) (hL : l.length ≤ 9223372036854775807) : ∀ (m i : Nat) (n : Int), l.length - i = m → i ≤ l.length → 0 ≤ n → n ≤ 9223372036854775807 → ∃ b, Ev (fun k => quillworklaw05_long.l0 k l n (i : Int)) b ∧ (b = false → n ≤ 20000) := by
  intro m
  induction m with
  | zero =>
    intro i n hm hi h0 hn
    refine ⟨decide (n > 20000), Ev.step (f := fun _ => some (decide (n > 20000))) (fun k => ?_) (Ev.now _), fun h => by have := of_decide_eq_false h; omega⟩
    simp only [quillworklaw05_long.l0]
    rw [if_neg (by omega)]
  | succ m ih =>
    intro i n hm hi h0 hn
    by_cases hn2 : n ≤ 20000
    · have hi2 : i < l.length := by omega
      have hc : l[i]? = some l[i] := List.getElem?_eq_getElem hi2
      have hr := rd_some_ hc
      have hs := (hl l[i] (List.getElem_mem hi2)).2.2
      have e1 : wrap64 ((l[i].f2.size : Int) / 8) = (l[i].f2.size : Int) / 8 := w64_ _ (by omega)
      have e2 : wrap64 (n + (l[i].f2.size : Int) / 8) = n + (l[i].f2.size : Int) / 8 := w64_ _ (by omega)
      have e3 : wrap64 ((i : Int) + 1) = ((i + 1 : Nat) : Int) := by rw [w64_ _ (by omega)]; omega
      obtain ⟨b, hb, hb2⟩ := ih (i + 1) (n + (l[i].f2.size : Int) / 8) (by omega) (by omega) (by omega) (by omega)
      refine ⟨b, Ev.step (fun k => ?_) hb, fun _ => hn2⟩
      simp only [quillworklaw05_long.l0]
      rw [if_pos (by omega), if_pos hn2, if_pos (by omega), hr, e1, e2, e3]
    · refine ⟨true, Ev.step (f := fun _ => some true) (fun k => ?_) (Ev.now _), fun h => by cases h⟩
      simp only [quillworklaw05_long.l0]
      rw [if_pos (by omega), if_neg hn2]
      simp
      omega
theorem long_ (l : List S71) (hl : ∀ x ∈ l, CellOk_ x) (hL : l.length ≤ 9223372036854775807) : ∃ b, Ev (fun k => quillworklaw05_long.f k l) b ∧ (b = false → l.length ≤ 20000) := by
  obtain ⟨b, h, h2⟩ := long_loop_ l hl hL _ 0 l.length rfl (Nat.zero_le _) (by omega) (by omega)
  exact ⟨b, h, fun e => by have := h2 e; omega⟩
end Go.Proofs.YtgdpknmffohhaaaDoor.Pure

/- The reference's target is the program's. -/
namespace Go.Proofs.YtgdpknmffohhaaaDoor.Pl
open Go.RowKit Go.Lib Go.Proofs.YtgdpknmffohhaaaDoorW.PrintWords Go.Proofs.YtgdpknmffohhaaaDoorW.PrintLast Go.Proofs.YtgdpknmffohhaaaDoorW.PrintMore
set_option linter.unusedVariables false
def twC_ (l : List UInt8) : List UInt8 := l.takeWhile (fun b => b != 58)
def lowb_ (b : UInt8) : UInt8 := if 65 ≤ b.toNat ∧ b.toNat ≤ 90 then b + 32 else b
theorem twC_le_ (l : List UInt8) : (twC_ l).length ≤ l.length := by
  unfold twC_
  exact (List.takeWhile_prefix _).length_le
theorem index_tw_ : ∀ l : List UInt8, Lib.index l [58] = if (twC_ l).length = l.length then -1 else ((twC_ l).length : Int)
  | [] => rfl
  | b :: l => by
    have ih := index_tw_ l
    have hle := twC_le_ l
    by_cases hb : b = 58
    · subst hb
      rw [show twC_ (58 :: l) = [] from by simp [twC_]]
      rw [if_neg (by simp)]
      rfl
    · have h1 : twC_ (b :: l) = b :: twC_ l := by unfold twC_; rw [List.takeWhile_cons, if_pos (by simpa using hb)]
      have h2 : ([58] : List UInt8).isPrefixOf (b :: l) = false := by
        simp [List.isPrefixOf, beq_eq_false_iff_ne.2 (Ne.symm hb)]
      have h3 : Lib.index (b :: l) [58] = if Lib.index l [58] == -1 then -1 else Lib.index l [58] + 1 := by
        show (if ([58] : List UInt8).isPrefixOf (b :: l) = true then 0 else _) = _
        rw [h2]
        rfl
      rw [h3, h1, ih, List.length_cons, List.length_cons]
      by_cases he : (twC_ l).length = l.length
      · rw [if_pos he]
        rw [if_pos (show ((-1 : Int) == -1) = true by decide), if_pos (by omega)]
      · rw [if_neg he]
        rw [if_neg (by intro h; rw [beq_iff_eq] at h; omega), if_neg (by omega)]
        omega
theorem cut_tw_ (l : List UInt8) : (Lib.cut l [58]).1 = twC_ l := by
  unfold Lib.cut
  rw [index_tw_]
  have hle := twC_le_ l
  by_cases he : (twC_ l).length = l.length
  · rw [if_pos he, if_neg (by decide)]
    exact ((List.takeWhile_prefix _).eq_of_length he).symm
  · rw [if_neg he, if_pos (by omega), Int.toNat_natCast]
    exact (List.prefix_iff_eq_take.1 (List.takeWhile_prefix _)).symm
theorem low_byte_ (b : UInt8) (h : b.toNat < 128) : Lib.encodeRune (low_ (b.toNat : Int)) = [lowb_ b] := by
  unfold low_ lowb_
  by_cases hc : 65 ≤ b.toNat ∧ b.toNat ≤ 90
  · rw [if_pos (by omega), if_pos hc]
    unfold Lib.encodeRune
    rw [Lib.encodeRuneZ_one (by omega) (by omega)]
    show [((b.toNat : Int) + 32).toNat.toUInt8] = [b + 32]
    rw [show ((b.toNat : Int) + 32).toNat = b.toNat + 32 by omega]
    simp
  · rw [if_neg (by omega), if_neg hc]
    unfold Lib.encodeRune
    rw [Lib.encodeRuneZ_one (by omega) (by omega)]
    show [((b.toNat : Int)).toNat.toUInt8] = [b]
    rw [Int.toNat_natCast]
    congr 1
    apply UInt8.toNat_inj.1
    simp
theorem low_far_ (b : UInt8) (t : List UInt8) (h : 128 ≤ b.toNat) : ∃ c u, Lib.encodeRune (low_ ((Lib.decodeL (b :: t)).1 : Int)) = c :: u ∧ 128 ≤ c.toNat := by
  have hr : 128 ≤ (Lib.decodeL (b :: t)).1 := by
    rw [Lib.decodeL_N]
    have k0 : ((b :: t).getD 0 0).toNat = b.toNat := rfl
    rw [k0]
    rcases Lib.decodeN_shape (b :: t).length b.toNat ((b :: t).getD 1 0).toNat ((b :: t).getD 2 0).toNat ((b :: t).getD 3 0).toNat with ⟨c, e⟩ | ⟨_, _, _, c, e⟩ | ⟨_, _, _, _, c, _, e⟩ | ⟨_, _, _, _, _, c, _, e⟩ | e
    · omega
    · rw [e]; exact c
    · rw [e]; dsimp only; omega
    · rw [e]; dsimp only; omega
    · rw [e]; decide
  have hm := Lib.decodeL_rune (b :: t)
  generalize (Lib.decodeL (b :: t)).1 = r at hr hm
  have hl : low_ (r : Int) = (r : Int) := by unfold low_; rw [if_neg (by omega)]
  rw [hl]
  unfold Lib.encodeRune
  by_cases h1 : r ≤ 2047
  · rw [Lib.encodeRuneZ_two (by omega) (by omega)]
    refine ⟨_, _, rfl, ?_⟩
    dsimp only
    rw [show (192 + (r : Int) / 64).toNat = 192 + r / 64 by omega]
    simp
    omega
  · by_cases h2 : r < 55296 ∨ (57343 < r ∧ r ≤ 65535)
    · rw [Lib.encodeRuneZ_three (by omega)]
      refine ⟨_, _, rfl, ?_⟩
      dsimp only
      rw [show (224 + (r : Int) / 4096).toNat = 224 + r / 4096 by omega]
      simp
      omega
    · by_cases h3 : 65536 ≤ r
      · rw [Lib.encodeRuneZ_four (by omega) (by omega)]
        refine ⟨_, _, rfl, ?_⟩
        dsimp only
        rw [show (240 + (r : Int) / 262144).toNat = 240 + r / 262144 by omega]
        simp
        omega
      · rw [Lib.encodeRuneZ_bad (by omega)]
        exact ⟨_, _, rfl, by decide⟩
theorem lowb_far_ (b : UInt8) (h : 128 ≤ b.toNat) : lowb_ b = b := by unfold lowb_; rw [if_neg (by omega)]
theorem mapD_word_ : ∀ (l W : List UInt8), (∀ x ∈ W, x.toNat < 128) → (Lib.mapD low_ l = W ↔ l.map lowb_ = W)
  | [], W, _ => Iff.rfl
  | b :: t, W, hW => by
    rw [Lib.mapD_step _ _ (by simp), List.map_cons]
    by_cases hb : b.toNat < 128
    · rw [Lib.decodeL_ascii b t hb]
      dsimp only
      rw [if_pos (by unfold low_; split <;> omega), low_byte_ b hb]
      show lowb_ b :: Lib.mapD low_ t = W ↔ _
      cases W with
      | nil => simp
      | cons c W =>
        have ih := mapD_word_ t W (fun x hx => hW x (List.mem_cons_of_mem _ hx))
        rw [List.cons.injEq, List.cons.injEq, ih]
    · obtain ⟨c, u, e, hc⟩ := low_far_ b t (by omega)
      rw [if_pos (by unfold low_; split <;> omega), e, lowb_far_ b (by omega)]
      cases W with
      | nil => simp
      | cons d W =>
        have hd := hW d (List.mem_cons_self ..)
        constructor
        · intro h
          rw [List.cons_append, List.cons.injEq] at h
          rw [h.1] at hc
          omega
        · intro h
          rw [List.cons.injEq] at h
          rw [h.1] at hb
          omega
def wordJ_ : List UInt8 := [106, 97, 118, 97, 115, 99, 114, 105, 112, 116]
theorem script_is_ (s : ByteArray) : script_ s = ((twC_ s.data.toList).map lowb_ == wordJ_) := by
  have h : (lowed_ s).toList = Lib.mapD low_ (twC_ s.data.toList) := by
    rw [ByteArray.toList_eq]
    unfold lowed_ head_
    simp [cut_tw_]
  unfold script_
  rw [h]
  show (Lib.mapD low_ (twC_ s.data.toList) == wordJ_) = _
  have hi := mapD_word_ (twC_ s.data.toList) wordJ_ (by decide)
  rw [Bool.eq_iff_iff, beq_iff_eq, beq_iff_eq]
  exact hi
end Go.Proofs.YtgdpknmffohhaaaDoor.Pl

namespace Go.Proofs.YtgdpknmffohhaaaDoor.Pl
open Go.RowKit Go.Proofs.YtgdpknmffohhaaaDoorW.PrintWords Go.Proofs.YtgdpknmffohhaaaDoorW.PrintLast Go.Proofs.YtgdpknmffohhaaaDoorW.PrintMore
attribute [local go_sem] max2_int min2_int max_two min_two max_three min_three max_four min_four   -- for this text's walks alone
set_option linter.unusedVariables false
set_option linter.unusedSimpArgs false

/-! ### slices_Clone_int: function 86 (given) -/
end Go.Proofs.YtgdpknmffohhaaaDoor.Pl

namespace Go.Proofs.YtgdpknmffohhaaaDoor.Pl
open Go.RowKit Go.Proofs.YtgdpknmffohhaaaDoorW.PrintWords Go.Proofs.YtgdpknmffohhaaaDoorW.PrintLast Go.Proofs.YtgdpknmffohhaaaDoorW.PrintMore
attribute [local go_sem] max2_int min2_int max_two min_two max_three min_three max_four min_four   -- for this text's walks alone
set_option linter.unusedVariables false
set_option linter.unusedSimpArgs false

/-! ### lines_Own: function 39 (given) -/
open Go.Lib
structure Ln where
  q : Int
  ls : List Int
  k : Int
  cs : List S71
/-- a row that is read -/
def Rd {α : Type} (d : Kd α) (W : World) (v : Value) (xs : List α) : Prop := ∃ A c, v = .slice A xs.length c ∧ d.C W A xs.length xs ∧ xs.length ≤ c
/-- a row that is read, of a block of its own, or a part of one -/
def Wr {α : Type} (d : Kd α) (e : Nat) (W : World) (base : Nat) (v : Value) (xs : List α) : Prop :=
  ∃ A c, v = .slice A xs.length c ∧ d.C W A xs.length xs ∧ xs.length ≤ c ∧ (0 < xs.length → ∃ g off cells, A = some ⟨g, off, none⟩ ∧ base ≤ g ∧ W.heap[g]? = some (.cells cells e (0, 0)))
section
variable {α : Type} {d : Kd α} {e : Nat} {W W1 : World} {base : Nat} {v : Value} {xs : List α}
theorem Rd.below (h : Rd d W v xs) (hb : Below W.heap.size W W1) : Rd d W1 v xs := by
  obtain ⟨A, c, e1, h1, h2⟩ := h
  exact ⟨A, c, e1, Kd.C_below h1 hb, h2⟩
theorem Wr.below (h : Wr d e W base v xs) (hb : Below W.heap.size W W1) : Wr d e W1 base v xs := by
  obtain ⟨A, c, e1, h1, h2, h3⟩ := h
  exact ⟨A, c, e1, Kd.C_below h1 hb, h2, fun h => by
    obtain ⟨g, off, cells, e2, h4, h5⟩ := h3 h
    exact ⟨g, off, cells, e2, h4, (hb.block g (Array.getElem?_eq_some_iff.1 h5).1).trans h5⟩⟩
end
/-- a line that is read -/
def RdL (W : World) (v : Value) (x : Ln) : Prop := ∃ v1 v3, v = .agg #[.int .i64 x.q, v1, .int .i64 x.k, v3] ∧ Rd (Kd.int .i64) W v1 x.ls ∧ Rd k71 W v3 x.cs
/-- a line that is read, its rows in memory from base on -/
def WrL (W : World) (base : Nat) (v : Value) (x : Ln) : Prop := ∃ v1 v3, v = .agg #[.int .i64 x.q, v1, .int .i64 x.k, v3] ∧ Wr (Kd.int .i64) 3 W base v1 x.ls ∧ Wr k71 71 W base v3 x.cs
theorem RdL.below {W W1 : World} {v : Value} {x : Ln} (h : RdL W v x) (hb : Below W.heap.size W W1) : RdL W1 v x := by
  obtain ⟨v1, v3, e, h1, h3⟩ := h
  exact ⟨v1, v3, e, h1.below hb, h3.below hb⟩
theorem WrL.below {W W1 : World} {base : Nat} {v : Value} {x : Ln} (h : WrL W base v x) (hb : Below W.heap.size W W1) : WrL W1 base v x := by
  obtain ⟨v1, v3, e, h1, h3⟩ := h
  exact ⟨v1, v3, e, h1.below hb, h3.below hb⟩
theorem Gl_.alloc {w : World} (h : Gl_ w) (o : Obj) : Gl_ (w.alloc o) := h.below (below_alloc (Below.refl _ _) o)
theorem Gl_.drewN {w : World} (h : Gl_ w) (n : Nat) : Gl_ (w.drewN n) := h.below (pw_below_drewN (Below.refl _ _) n)
section
variable {W : World} {g : Nat} {a b c d z0 z1 z2 z3 : Value} {t : Nat}
end
end Go.Proofs.YtgdpknmffohhaaaDoor.Pl

/- Lines of a document: what a line's value says (the text lies with lines.Own's). -/

namespace Go.Proofs.YtgdpknmffohhaaaDoor.Pl
open Go.RowKit Go.Proofs.YtgdpknmffohhaaaDoorW.PrintWords Go.Proofs.YtgdpknmffohhaaaDoorW.PrintLast Go.Proofs.YtgdpknmffohhaaaDoorW.PrintMore
attribute [local go_sem] max2_int min2_int max_two min_two max_three min_three max_four min_four   -- for this text's walks alone
set_option linter.unusedVariables false
set_option linter.unusedSimpArgs false

theorem eqA71 (d : Nat) (w : World) (x0 y0 : Int) (x1 y1 : Int) (x2 y2 : ByteArray) :
    (Op.equalIn (d + 2) 71 (.agg #[.int .i32 x0, .int .i64 x1, .string x2]) (.agg #[.int .i32 y0, .int .i64 y1, .string y2])).run Tryd.prog w = .ok (x0 == y0 && (x1 == y1 && (x2.toList == y2.toList))) w := by
  refine eqA_of Tryd.underlying71 (by kernel_rfl) ?_
  refine eqf_cons (by rfl) (by go_simp; rfl) (by go_simp; rfl) (by go_simp) ?_
  refine eqf_cons (by rfl) (by go_simp; rfl) (by go_simp; rfl) (by go_simp) ?_
  exact eqf_last (by rfl) (by go_simp; rfl) (by go_simp; rfl) (by go_simp)
end Go.Proofs.YtgdpknmffohhaaaDoor.Pl

namespace Go.Proofs.YtgdpknmffohhaaaDoor.Pl
open Go.RowKit Go.Proofs.YtgdpknmffohhaaaDoorW.PrintWords Go.Proofs.YtgdpknmffohhaaaDoorW.PrintLast Go.Proofs.YtgdpknmffohhaaaDoorW.PrintMore
attribute [local go_sem] max2_int min2_int max_two min_two max_three min_three max_four min_four   -- for this text's walks alone
set_option linter.unusedVariables false
set_option linter.unusedSimpArgs false

attribute [local go_sem high] eqA71
/-! ### slices_Equal_Cell: function 112 -/
end Go.Proofs.YtgdpknmffohhaaaDoor.Pl

namespace Go.Proofs.YtgdpknmffohhaaaDoor.Pl
open Go.RowKit Go.Proofs.YtgdpknmffohhaaaDoorW.PrintWords Go.Proofs.YtgdpknmffohhaaaDoorW.PrintLast Go.Proofs.YtgdpknmffohhaaaDoorW.PrintMore
attribute [local go_sem] max2_int min2_int max_two min_two max_three min_three max_four min_four   -- for this text's walks alone
set_option linter.unusedVariables false
set_option linter.unusedSimpArgs false

/-! ### cells_Same: function 65 -/
end Go.Proofs.YtgdpknmffohhaaaDoor.Pl

namespace Go.Proofs.YtgdpknmffohhaaaDoor.Pl
open Go.RowKit Go.Proofs.YtgdpknmffohhaaaDoorW.PrintWords Go.Proofs.YtgdpknmffohhaaaDoorW.PrintLast Go.Proofs.YtgdpknmffohhaaaDoorW.PrintMore
attribute [local go_sem] max2_int min2_int max_two min_two max_three min_three max_four min_four   -- for this text's walks alone
set_option linter.unusedVariables false
set_option linter.unusedSimpArgs false

/-! ### slices_Equal_int: function 76 -/
end Go.Proofs.YtgdpknmffohhaaaDoor.Pl

namespace Go.Proofs.YtgdpknmffohhaaaDoor.Pl
open Go.RowKit Go.Proofs.YtgdpknmffohhaaaDoorW.PrintWords Go.Proofs.YtgdpknmffohhaaaDoorW.PrintLast Go.Proofs.YtgdpknmffohhaaaDoorW.PrintMore
attribute [local go_sem] max2_int min2_int max_two min_two max_three min_three max_four min_four   -- for this text's walks alone
set_option linter.unusedVariables false
set_option linter.unusedSimpArgs false

/-! ### lines_Same: function 19 -/
end Go.Proofs.YtgdpknmffohhaaaDoor.Pl

/- Whether lines are the same; whether a line is long. -/
namespace Go.Proofs.YtgdpknmffohhaaaDoor.Pl
open Go.RowKit Go.Lib Go.Proofs.YtgdpknmffohhaaaDoorW.PrintWords Go.Proofs.YtgdpknmffohhaaaDoorW.PrintLast Go.Proofs.YtgdpknmffohhaaaDoorW.PrintMore
set_option linter.unusedVariables false
def cellEq (a b : S71) : Bool := (a.f0 == b.f0) && ((a.f1 == b.f1) && (a.f2.toList == b.f2.toList))
theorem cellEq_iff {a b : S71} : cellEq a b = true ↔ a = b := by
  unfold cellEq
  rw [Bool.and_eq_true, Bool.and_eq_true, beq_iff_eq, beq_iff_eq, beq_iff_eq]
  constructor
  · rintro ⟨h0, h1, h2⟩
    obtain ⟨a0, a1, a2⟩ := a
    obtain ⟨b0, b1, b2⟩ := b
    dsimp only at h0 h1 h2
    rw [ByteArray.toList_eq, ByteArray.toList_eq] at h2
    have h3 : a2 = b2 := by
      cases a2
      cases b2
      congr 1
      exact Array.toList_inj.1 h2
    rw [h0, h1, h3]
  · rintro rfl
    exact ⟨rfl, rfl, rfl⟩
def sameC : List S71 → List S71 → Bool
  | [], [] => true
  | a :: s, b :: t => cellEq a b && sameC s t
  | _, _ => false
theorem sameC_iff : ∀ {x y : List S71}, sameC x y = true ↔ x = y
  | [], [] => by simp [sameC]
  | a :: s, b :: t => by
    rw [sameC, Bool.and_eq_true, cellEq_iff, sameC_iff, List.cons.injEq]
  | [], b :: t => by simp [sameC]
  | a :: s, [] => by simp [sameC]
theorem sameC_len {x y : List S71} (h : x.length ≠ y.length) : sameC x y = false := by
  cases e : sameC x y with
  | false => rfl
  | true => exact absurd (congrArg List.length (sameC_iff.1 e)) h
theorem w64s_ (n : Int) (h : -9223372036854775808 ≤ n ∧ n ≤ 9223372036854775807) : wrap64 n = n := by unfold wrap64; omega
theorem rdc_ {l : List S71} {i : Nat} (h : i < l.length) : rd_T71 l (i : Int) = l[i] := by
  unfold rd_T71
  rw [List.getD_eq_getElem?_getD, Int.toNat_natCast, List.getElem?_eq_getElem h]
  rfl
theorem eqR_loop_ (x y : List S71) (hl : x.length = y.length) (hx : x.length ≤ 1000000000) : ∀ (m i : Nat), x.length - i = m → i ≤ x.length → Ev (fun k => quillworkref05_Same.l0 k x y (i : Int)) (sameC (x.drop i) (y.drop i)) := by
  intro m
  induction m with
  | zero =>
    intro i hm hi
    refine Ev.step (f := fun _ => some _) (fun k => ?_) (Ev.now _)
    simp only [quillworkref05_Same.l0]
    rw [if_neg (by omega), List.drop_eq_nil_of_le (by omega), List.drop_eq_nil_of_le (by omega)]
    rfl
  | succ m ih =>
    intro i hm hi
    have e3 : wrap64 ((i : Int) + 1) = ((i + 1 : Nat) : Int) := by rw [w64s_ _ (by omega)]; omega
    have hd : sameC (x.drop i) (y.drop i) = (cellEq (x[i]'(by omega)) (y[i]'(by omega)) && sameC (x.drop (i + 1)) (y.drop (i + 1))) := by
      rw [List.drop_eq_getElem_cons (show i < x.length by omega), List.drop_eq_getElem_cons (show i < y.length by omega)]
      rfl
    rw [hd]
    have ex := rdc_ (l := x) (i := i) (by omega)
    have ey := rdc_ (l := y) (i := i) (by omega)
    generalize x[i]'(by omega) = a at ex ⊢
    generalize y[i]'(by omega) = b at ey ⊢
    by_cases h : a = b
    · rw [cellEq_iff.2 h, Bool.true_and]
      refine Ev.step (fun k => ?_) (ih (i + 1) (by omega) (by omega))
      simp only [quillworkref05_Same.l0]
      rw [if_pos (by omega), if_pos (by omega), if_pos (by omega), ex, ey, h, if_pos rfl, if_pos rfl, if_pos rfl, e3]
    · have hf : cellEq a b = false := by
        cases e : cellEq a b with
        | false => rfl
        | true => exact absurd (cellEq_iff.1 e) h
      rw [hf, Bool.false_and]
      refine Ev.step (f := fun _ => some _) (fun k => ?_) (Ev.now _)
      simp only [quillworkref05_Same.l0]
      rw [if_pos (by omega), if_pos (by omega), if_pos (by omega), ex, ey]
      unfold cellEq at hf
      by_cases h0 : a.f0 = b.f0
      · rw [if_pos h0]
        by_cases h1 : a.f1 = b.f1
        · rw [if_pos h1]
          rw [beq_iff_eq.mpr h0, beq_iff_eq.mpr h1, Bool.true_and, Bool.true_and, beq_eq_false_iff_ne] at hf
          rw [if_neg hf]
        · rw [if_neg h1]
      · rw [if_neg h0]
end Go.Proofs.YtgdpknmffohhaaaDoor.Pl

/- The reference's target, its loops. -/
namespace Go.Proofs.YtgdpknmffohhaaaDoor.Pl
open Go.RowKit Go.Lib Go.Proofs.YtgdpknmffohhaaaDoorW.PrintWords Go.Proofs.YtgdpknmffohhaaaDoorW.PrintLast Go.Proofs.YtgdpknmffohhaaaDoorW.PrintMore
set_option linter.unusedVariables false
def wordS_ : ByteArray := ⟨#[106, 97, 118, 97, 115, 99, 114, 105, 112, 116]⟩
theorem wsize_ : wordS_.size = 10 := rfl
theorem bt_list_ (s : ByteArray) (i : Nat) (h : i < s.data.toList.length) : bt s (i : Int) = ((s.data.toList[i]'h).toNat : Int) := by
  have h' : i < s.size := by rw [← Array.size_eq_length_toList] at h; exact h
  rw [← bt_at s i (by rw [Int.toNat_natCast]; exact h')]
  simp only [Int.toNat_natCast, Array.getElem_toList]
  rfl
theorem jword_ (i : Nat) (h : i < 10) : bt wordS_ (i : Int) = ((wordJ_[i]'h).toNat : Int) := bt_list_ wordS_ i h
theorem cmp_loop_ (s : ByteArray) (n : Nat) (hs : s.size ≤ 70368744177664) (hn : n = (twC_ s.data.toList).length) (h10 : n = 10) : ∀ (m i : Nat), n - i = m → i ≤ n →
    Ev (fun k => quillworkref03_Target.l1 k s wordS_ (n : Int) (i : Int)) (!(((twC_ s.data.toList).drop i).map lowb_ == wordJ_.drop i)) := by
  have hle := twC_le_ s.data.toList
  have hsz : s.data.toList.length = s.size := (Lib.size_eq s).symm
  intro m
  induction m with
  | zero =>
    intro i hm hi
    refine Ev.step (f := fun _ => some _) (fun k => ?_) (Ev.now _)
    simp only [quillworkref03_Target.l1]
    rw [if_neg (by omega), List.drop_eq_nil_of_le (by omega), List.drop_eq_nil_of_le (by show 10 ≤ i; omega)]
    rfl
  | succ m ih =>
    intro i hm hi
    have e3 : wrap64 ((i : Int) + 1) = ((i + 1 : Nat) : Int) := by rw [w64s_ _ (by omega)]; omega
    have hil : i < (twC_ s.data.toList).length := by omega
    have hj : i < wordJ_.length := by show i < 10; omega
    have hg : (twC_ s.data.toList)[i]'hil = s.data.toList[i]'(by omega) := (List.takeWhile_prefix _).getElem hil
    have hb := bt_list_ s i (by omega)
    have hw := jword_ i (by omega)
    rw [← hg] at hb
    have hd : (((twC_ s.data.toList).drop i).map lowb_ == wordJ_.drop i) = ((lowb_ ((twC_ s.data.toList)[i]'hil) == wordJ_[i]'hj) && (((twC_ s.data.toList).drop (i + 1)).map lowb_ == wordJ_.drop (i + 1))) := by
      rw [List.drop_eq_getElem_cons hil, List.drop_eq_getElem_cons hj, List.map_cons]
      rfl
    rw [hd]
    have ihh := ih (i + 1) (by omega) (by omega)
    generalize (twC_ s.data.toList)[i]'hil = b at hb ⊢
    generalize hc : wordJ_[i]'hj = c at hw ⊢
    have hb256 := b.toNat_lt
    have hlow : ((lowb_ b).toNat : Int) = if 65 ≤ b.toNat ∧ b.toNat ≤ 90 then ((b.toNat : Int) + 32) % 256 else (b.toNat : Int) := by
      unfold lowb_
      split
      · rw [UInt8.toNat_add]
        simp
      · rfl
    have heq : (lowb_ b == c) = decide (((lowb_ b).toNat : Int) = (c.toNat : Int)) := by
      rw [Bool.eq_iff_iff, beq_iff_eq, decide_eq_true_eq, ← UInt8.toNat_inj]
      omega
    rw [heq, hlow]
    refine Ev.step (f := fun k => quillworkref03_Target.j4 k s wordS_ (n : Int) (i : Int) (b.toNat : Int) (decide (65 ≤ b.toNat ∧ b.toNat ≤ 90))) (fun k => ?_) ?_
    · simp only [quillworkref03_Target.l1]
      rw [if_pos (by omega), if_pos (by omega), if_pos (by omega), hb]
      by_cases h65 : 65 ≤ b.toNat
      · rw [if_pos (by omega)]
        congr 1
        rw [decide_eq_decide]
        omega
      · rw [if_neg (by omega), decide_eq_false (by omega)]
    · by_cases hr : 65 ≤ b.toNat ∧ b.toNat ≤ 90
      · rw [if_pos hr, decide_eq_true hr]
        by_cases he : ((b.toNat : Int) + 32) % 256 = (c.toNat : Int)
        · rw [decide_eq_true he, Bool.true_and]
          refine Ev.step (fun k => ?_) ihh
          simp only [quillworkref03_Target.j4]
          rw [if_pos trivial, if_pos (by omega), if_pos (show (i : Int) < (wordS_.size : Int) by rw [wsize_]; omega), hw, if_pos he, e3]
        · rw [decide_eq_false he, Bool.false_and]
          refine Ev.step (f := fun _ => some _) (fun k => ?_) (Ev.now _)
          simp only [quillworkref03_Target.j4]
          rw [if_pos trivial, if_pos (by omega), if_pos (show (i : Int) < (wordS_.size : Int) by rw [wsize_]; omega), hw, if_neg he]
          rfl
      · rw [if_neg hr, decide_eq_false hr]
        by_cases he : (b.toNat : Int) = (c.toNat : Int)
        · rw [decide_eq_true he, Bool.true_and]
          refine Ev.step (fun k => ?_) ihh
          simp only [quillworkref03_Target.j4]
          rw [if_neg (by decide), if_pos (by omega), if_pos (show (i : Int) < (wordS_.size : Int) by rw [wsize_]; omega), hw, if_pos he, e3]
        · rw [decide_eq_false he, Bool.false_and]
          refine Ev.step (f := fun _ => some _) (fun k => ?_) (Ev.now _)
          simp only [quillworkref03_Target.j4]
          rw [if_neg (by decide), if_pos (by omega), if_pos (show (i : Int) < (wordS_.size : Int) by rw [wsize_]; omega), hw, if_neg he]
          rfl
theorem end_loop_ (s : ByteArray) (n : Nat) (hs : s.size ≤ 70368744177664) (hn : n = (twC_ s.data.toList).length) {R : Bool} (hj : Ev (fun k => quillworkref03_Target.j2 k s wordS_ (n : Int)) R) : ∀ (m i : Nat), n - i = m → i ≤ n → Ev (fun k => quillworkref03_Target.l0 k s wordS_ (i : Int)) R := by
  have hle := twC_le_ s.data.toList
  have hsz : s.data.toList.length = s.size := (Lib.size_eq s).symm
  intro m
  induction m with
  | zero =>
    intro i hm hi
    obtain rfl : i = n := by omega
    refine Ev.step (fun k => ?_) hj
    simp only [quillworkref03_Target.l0]
    by_cases he : i < s.size
    · have hb := bt_list_ s i (by omega)
      have h58 : s.data.toList[i]'(by omega) = 58 := by
        have h1 := List.head_dropWhile_not (p := fun b : UInt8 => b != 58) (l := s.data.toList)
        have h2 : s.data.toList.dropWhile (fun b => b != 58) = s.data.toList.drop i := by
          have := List.takeWhile_append_dropWhile (p := fun b : UInt8 => b != 58) (l := s.data.toList)
          have h3 : s.data.toList = twC_ s.data.toList ++ s.data.toList.dropWhile (fun b => b != 58) := this.symm
          conv => rhs; rw [h3]
          rw [hn, List.drop_left]
        rw [h2] at h1
        have h4 := h1 (by intro e; have := congrArg List.length e; rw [List.length_drop] at this; simp at this; omega)
        rw [List.head_drop] at h4
        simpa using h4
      rw [if_pos (by omega), if_pos (by omega), if_pos (by rw [hb, h58]; rfl)]
    · rw [if_neg (by omega)]
  | succ m ih =>
    intro i hm hi
    have e3 : wrap64 ((i : Int) + 1) = ((i + 1 : Nat) : Int) := by rw [w64s_ _ (by omega)]; omega
    have hil : i < (twC_ s.data.toList).length := by omega
    have hg : (twC_ s.data.toList)[i]'hil = s.data.toList[i]'(by omega) := (List.takeWhile_prefix _).getElem hil
    have hb := bt_list_ s i (by omega)
    rw [← hg] at hb
    have hne : (twC_ s.data.toList)[i]'hil ≠ 58 := by
      have := List.all_eq_true.1 (List.all_takeWhile (p := fun b : UInt8 => b != 58) (l := s.data.toList)) _ (List.getElem_mem hil)
      simpa using this
    refine Ev.step (fun k => ?_) (ih (i + 1) (by omega) (by omega))
    simp only [quillworkref03_Target.l0]
    rw [if_pos (by omega), if_pos (by omega), if_neg (by rw [hb]; intro e; apply hne; apply UInt8.toNat_inj.1; show _ = 58; omega), e3]
theorem ref_script_ (s : ByteArray) (hs : s.size ≤ 70368744177664) : Ev (fun k => quillworkref03_Target.j0 k s false) (!script_ s) := by
  refine Ev.step (fun k => ?_) (end_loop_ s _ hs rfl (R := !script_ s) ?_ _ 0 rfl (Nat.zero_le _))
  · simp only [quillworkref03_Target.j0]
    rw [if_neg (by decide)]
    rfl
  · rw [script_is_]
    by_cases h : (twC_ s.data.toList).length = 10
    · refine Ev.step (fun k => ?_) (cmp_loop_ s _ hs rfl h _ 0 rfl (Nat.zero_le _))
      simp only [quillworkref03_Target.j2]
      rw [if_pos (show ((twC_ s.data.toList).length : Int) = (wordS_.size : Int) by rw [wsize_]; omega)]
      rfl
    · have hb : ((twC_ s.data.toList).map lowb_ == wordJ_) = false := beq_eq_false_iff_ne.2 (fun e => h (by have := congrArg List.length e; rw [List.length_map] at this; exact this))
      rw [hb]
      refine Ev.step (f := fun _ => some _) (fun k => ?_) (Ev.now _)
      simp only [quillworkref03_Target.j2]
      rw [if_neg (show ¬ ((twC_ s.data.toList).length : Int) = (wordS_.size : Int) by rw [wsize_]; omega)]
      rfl
end Go.Proofs.YtgdpknmffohhaaaDoor.Pl

/- lines.Own: a line in memory of its own (the text lies with the printed ones). -/

/- slices.ContainsFunc over whole numbers; lines.May. -/
namespace Go.Proofs.YtgdpknmffohhaaaDoor.Pl
open Go.RowKit Go.Lib Go.Proofs.YtgdpknmffohhaaaDoorW.PrintWords Go.Proofs.YtgdpknmffohhaaaDoorW.PrintLast Go.Proofs.YtgdpknmffohhaaaDoorW.PrintMore
set_option linter.unusedVariables false
end Go.Proofs.YtgdpknmffohhaaaDoor.Pl

/- What turns a line: its last list, the closures, and lines.turned. -/
namespace Go.Proofs.YtgdpknmffohhaaaDoor.Pl
open Go.RowKit Go.Lib Go.Proofs.YtgdpknmffohhaaaDoorW.PrintWords Go.Proofs.YtgdpknmffohhaaaDoorW.PrintLast Go.Proofs.YtgdpknmffohhaaaDoorW.PrintMore
set_option linter.unusedVariables false
section
variable {P : Program}
end
/-- a line's box -/
def Box_ (W : World) (b : Nat) (q : Int) (v1 : Value) (k : Int) (v3 : Value) : Prop := W.heap[b]? = some (.cells #[.int .i64 q, v1, .int .i64 k, v3] 38 (0, 0))
theorem Box_.c3 {W : World} {b : Nat} {q k : Int} {v1 v3 : Value} (h : Box_ W b q v1 k v3) : W.cell? ⟨b, 3, none⟩ = some v3 := (blk_cell h 3).trans rfl
end Go.Proofs.YtgdpknmffohhaaaDoor.Pl

/- The closures that turn a line. -/
namespace Go.Proofs.YtgdpknmffohhaaaDoor.Pl
open Go.RowKit Go.Lib Go.Proofs.YtgdpknmffohhaaaDoorW.PrintWords Go.Proofs.YtgdpknmffohhaaaDoorW.PrintLast Go.Proofs.YtgdpknmffohhaaaDoorW.PrintMore
set_option linter.unusedVariables false
end Go.Proofs.YtgdpknmffohhaaaDoor.Pl

namespace Go.Proofs.YtgdpknmffohhaaaDoor.Pl
open Go.RowKit Go.Proofs.YtgdpknmffohhaaaDoorW.PrintWords Go.Proofs.YtgdpknmffohhaaaDoorW.PrintLast Go.Proofs.YtgdpknmffohhaaaDoorW.PrintMore
attribute [local go_sem] max2_int min2_int max_two min_two max_three min_three max_four min_four   -- for this text's walks alone
set_option linter.unusedVariables false
set_option linter.unusedSimpArgs false

/-! ### quillworkref05_May: function 85 -/
end Go.Proofs.YtgdpknmffohhaaaDoor.Pl
