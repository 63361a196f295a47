-- PRINTED by print.py (a twelfth state) out of the translation. Not trusted: Lean checks it.
import Derived.Test.YtgdpknmffohhaaaPr0
import Derived.Test.YtgdpknmffohhaaaPr4
namespace Go.Proofs.Ytgdpknmffohhaaa.Pr
open Go.RowKit Go.Proofs.YtgdpknmffohhaaaW.PrintWords Go.Proofs.YtgdpknmffohhaaaW.PrintLast Go.Proofs.YtgdpknmffohhaaaW.PrintMore
attribute [local go_sem] max2_int min2_int max_two min_two max_three min_three max_four min_four   -- for this text's walks alone
set_option linter.unusedVariables false
set_option linter.unusedSimpArgs false

/-! ### cells_Within: function 10 (given) -/
def back_ (h : ByteArray) (l : List S30) : Nat → Nat
  | 0 => 0
  | n + 1 => if (rd_T30 l (n : Int)).f2.toList = h.toList then back_ h l n else n + 1
def forth_ (h : ByteArray) (l : List S30) : Nat → Nat → Nat
  | 0, i => i
  | k + 1, i => if (rd_T30 l (i : Int)).f2.toList = h.toList then forth_ h l k (i + 1) else i
theorem forth_step_ {h : ByteArray} {l : List S30} {i : Nat} (hi : i < l.length) (e : (rd_T30 l (i : Int)).f2.toList = h.toList) : forth_ h l (l.length - (i + 1)) (i + 1) = forth_ h l (l.length - i) i := by
  obtain ⟨k, hk⟩ : ∃ k, l.length - i = k + 1 := ⟨l.length - i - 1, by omega⟩
  rw [hk, show l.length - (i + 1) = k by omega]
  simp only [forth_]
  rw [if_pos e]
theorem forth_stop_ {h : ByteArray} {l : List S30} {i : Nat} (e : i < l.length → ¬ (rd_T30 l (i : Int)).f2.toList = h.toList) : forth_ h l (l.length - i) i = i := by
  rcases hk : l.length - i with _ | k
  · rfl
  · simp only [forth_]
    rw [if_neg (e (by omega))]
def href_ (l : List S30) (p : Nat) : ByteArray :=
  if 0 < p then (if (rd_T30 l ((p - 1 : Nat) : Int)).f2.toList = [] then (if p < l.length then (rd_T30 l (p : Int)).f2 else ⟨#[]⟩) else (rd_T30 l ((p - 1 : Nat) : Int)).f2) else (if p < l.length then (rd_T30 l (p : Int)).f2 else ⟨#[]⟩)
def within_ (l : List S30) (p : Nat) (s : ByteArray) : Int × Int := if s.toList = [] then ((p : Int), (p : Int)) else (((back_ s l p : Nat) : Int), ((forth_ s l (l.length - p) p : Nat) : Int))
def cells_Within.f (l0 : List (S30)) (a1 : Int) : Option (Int × Int) := some (within_ l0 (sidesAt_ a1 l0.length).toNat (href_ l0 (sidesAt_ a1 l0.length).toNat))
set_option maxHeartbeats 8000000 in
theorem cells_Within.calls (A0 : Option Addr) (c0 : Nat) (l0 : List (S30)) (a1 : Int) (r1 : Int) (r2 : Int) (w : World) (hr0 : Kd.C k30 w A0 l0.length l0) (hc0 : l0.length ≤ c0) (h : cells_Within.f l0 a1 = some (r1, r2)) :
    Calls Try.prog 10 #[.slice A0 l0.length c0, .int .i64 a1] w fun e w' => e = .returned (.tuple #[.int .i64 r1, .int .i64 r2]) ∧ Below w.heap.size w w' := by
  have HS := Aside0.mk (cells_sides.calls A0 c0 l0 a1 w hr0 hc0)
  have hlen : l0.length ≤ 9223372036854775807 := hr0.2.1
  have hp := sidesAt_le a1 l0.length
  unfold cells_Within.f at h
  obtain ⟨p, hpe⟩ : ∃ p, sidesAt_ a1 l0.length = p := ⟨_, rfl⟩
  rw [hpe] at hp h HS
  clear hpe
  obtain ⟨hp0, hp1⟩ := hp
  obtain ⟨q, rfl⟩ := Int.eq_ofNat_of_zero_le hp0
  rw [Int.toNat_natCast] at h
  have hq : q ≤ l0.length := by omega
  clear hp0 hp1
  have f1_ : ∀ j : Nat, j < l0.length → ∃ ad : Addr, A0 = some ad ∧ w.cell? ⟨(ad.add (j * 3)).block, (ad.add (j * 3)).off + 2, none⟩ = some (.string (rd_T30 l0 (j : Int)).f2) := by
    intro j h1
    obtain ⟨ad, e, g⟩ := at_T30 hr0 (j : Int) (by omega) (by omega)
    exact ⟨_, e, g.2.2⟩
  clear hr0
  have F1 := Aside0.mk f1_
  clear f1_
  obtain ⟨s, hs⟩ : ∃ s, href_ l0 q = s := ⟨_, rfl⟩
  rw [hs] at h
  have H := Aside0.mk h
  have HS' := Aside0.mk hs
  clear h hs
  by_cases c1 : 0 < q
  · by_cases c2 : q < l0.length
    · obtain ⟨ad, ea, ka⟩ := F1.out (q - 1) (by omega)
      cases ea
      obtain ⟨sa, hsa⟩ : ∃ z, (rd_T30 l0 ((q - 1 : Nat) : Int)).f2 = z := ⟨_, rfl⟩
      rw [hsa] at ka
      obtain ⟨ad, ea, kb⟩ := F1.out q c2
      cases ea
      obtain ⟨sb, hsb⟩ : ∃ z, (rd_T30 l0 (q : Int)).f2 = z := ⟨_, rfl⟩
      rw [hsb] at kb
      rw [if_pos (show (0:Int) < (q:Int) by omega), if_pos (show (q:Int) < (l0.length:Int) by omega), Option.map_some] at HS
      by_cases e0_ : sa.toList = []
      · have hh_ := HS'.out
        unfold href_ at hh_
        rw [if_pos c1, hsa, if_pos e0_, if_pos c2, hsb] at hh_
        subst hh_
        clear HS' hsb hsa
        have e_ := e0_
        have u1_ : (!sa.toList.isEmpty) = false := by rw [e_]; rfl
        have u2_ : sa.toList.isEmpty = true := by rw [e_]; rfl
        clear e_ e0_
        by_cases e_ : sb.toList = []
        · have t1_ : (!sb.toList.isEmpty) = false := by rw [e_]; rfl
          have t2_ : sb.toList.isEmpty = true := by rw [e_]; rfl
          have EQ := Aside0.mk e_
          clear e_
          have H2 : ((q : Int), (q : Int)) = (r1, r2) := by have h_ := H.out; unfold within_ at h_; rw [if_pos EQ.out] at h_; exact Option.some.inj h_
          clear H
          cases H2
          go_enter Try.func10, Try.ntmps10
          go_wp2_with ((go_at_call 23; refine HS.out.mono ?_; rintro e w' ⟨rfl, rfl⟩))
          go_ret2
          exact ⟨rfl, Below.refl _ _⟩
        · have t1_ : (!sb.toList.isEmpty) = true := by cases h_ : sb.toList with | nil => exact absurd h_ e_ | cons _ _ => rfl
          have t2_ : sb.toList.isEmpty = false := by cases h_ : sb.toList with | nil => exact absurd h_ e_ | cons _ _ => rfl
          have NE := Aside0.mk e_
          clear e_
          have HR1 : Aside0 (r1 = ((back_ sb l0 q : Nat) : Int)) := by have h_ := H.out; unfold within_ at h_; rw [if_neg NE.out] at h_; simp only [Option.some.injEq, Prod.mk.injEq] at h_; exact ⟨h_.1.symm⟩
          have HR2 : Aside0 (r2 = ((forth_ sb l0 (l0.length - q) q : Nat) : Int)) := by have h_ := H.out; unfold within_ at h_; rw [if_neg NE.out] at h_; simp only [Option.some.injEq, Prod.mk.injEq] at h_; exact ⟨h_.2.symm⟩
          clear H
          go_enter Try.func10, Try.ntmps10
          go_wp2_with ((go_at_call 23; refine HS.out.mono ?_; rintro e w' ⟨rfl, rfl⟩))
          go_loop [4] (fun v => ∃ x : Nat, v = .int .i64 (x : Int) ∧ x ≤ q ∧ Aside0 (back_ sb l0 x = back_ sb l0 q)) (fun v => (intOf v).toNat)
          case atStart => exact ⟨q, rfl, Nat.le_refl _, ⟨rfl⟩⟩
          case round =>
            obtain ⟨x, rfl, hx, HX⟩ := hrel
            cases x with
            | zero =>
              have bx : Aside0 (back_ sb l0 0 = 0) := ⟨rfl⟩
              go_wp2
              go_loop [5] (fun v => ∃ y : Nat, v = .int .i64 (y : Int) ∧ y ≤ l0.length ∧ Aside0 (forth_ sb l0 (l0.length - y) y = forth_ sb l0 (l0.length - q) q)) (fun v => l0.length - (intOf v).toNat)
              case atStart => exact ⟨q, rfl, by omega, ⟨rfl⟩⟩
              case round =>
                obtain ⟨y, rfl, hy, HY⟩ := hrel
                by_cases c5 : y < l0.length
                · obtain ⟨ad, ea, ky⟩ := F1.out y c5
                  cases ea
                  by_cases c6 : (rd_T30 l0 (y : Int)).f2.toList = sb.toList
                  · have st := Aside0.mk (forth_step_ c5 c6)
                    obtain ⟨sy, hsy⟩ : ∃ z, (rd_T30 l0 (y : Int)).f2 = z := ⟨_, rfl⟩
                    rw [hsy] at ky c6
                    have c6' : (sy.toList == sb.toList) = true := beq_iff_eq.mpr c6
                    clear c6 hsy
                    go_wp2
                    go_round
                    case rel => exact ⟨y + 1, by go_num, by omega, ⟨st.out.trans HY.out⟩⟩
                    case measure => simp [intOf] <;> omega
                  · have st := Aside0.mk (forth_stop_ (fun _ => c6))
                    obtain ⟨sy, hsy⟩ : ∃ z, (rd_T30 l0 (y : Int)).f2 = z := ⟨_, rfl⟩
                    rw [hsy] at ky c6
                    have c6' : (sy.toList == sb.toList) = false := beq_eq_false_iff_ne.mpr c6
                    clear c6 hsy
                    go_wp2
                    go_ret2
                    exact ⟨by rw [HR1.out, HR2.out, ← HX.out, bx.out, ← HY.out, st.out]; rfl, Below.refl _ _⟩
                · have st := Aside0.mk (forth_stop_ (h := sb) (l := l0) (i := y) (fun h_ => absurd h_ c5))
                  go_wp2
                  go_ret2
                  exact ⟨by rw [HR1.out, HR2.out, ← HX.out, bx.out, ← HY.out, st.out]; rfl, Below.refl _ _⟩
            | succ x =>
              obtain ⟨ad, ea, kx⟩ := F1.out x (by omega)
              cases ea
              by_cases c4 : (rd_T30 l0 (x : Int)).f2.toList = sb.toList
              · have bx : Aside0 (back_ sb l0 (x + 1) = back_ sb l0 x) := ⟨by simp only [back_]; rw [if_pos c4]⟩
                obtain ⟨sx, hsx⟩ : ∃ z, (rd_T30 l0 (x : Int)).f2 = z := ⟨_, rfl⟩
                rw [hsx] at kx c4
                have c4' : (sx.toList == sb.toList) = true := beq_iff_eq.mpr c4
                clear c4 hsx
                go_wp2
                go_round
                case rel => exact ⟨x, by go_num, by omega, ⟨bx.out.symm.trans HX.out⟩⟩
                case measure => simp [intOf] <;> omega
              · have bx : Aside0 (back_ sb l0 (x + 1) = x + 1) := ⟨by simp only [back_]; rw [if_neg c4]⟩
                obtain ⟨sx, hsx⟩ : ∃ z, (rd_T30 l0 (x : Int)).f2 = z := ⟨_, rfl⟩
                rw [hsx] at kx c4
                have c4' : (sx.toList == sb.toList) = false := beq_eq_false_iff_ne.mpr c4
                clear c4 hsx
                go_wp2
                go_loop [5] (fun v => ∃ y : Nat, v = .int .i64 (y : Int) ∧ y ≤ l0.length ∧ Aside0 (forth_ sb l0 (l0.length - y) y = forth_ sb l0 (l0.length - q) q)) (fun v => l0.length - (intOf v).toNat)
                case atStart => exact ⟨q, rfl, by omega, ⟨rfl⟩⟩
                case round =>
                  obtain ⟨y, rfl, hy, HY⟩ := hrel
                  by_cases c5 : y < l0.length
                  · obtain ⟨ad, ea, ky⟩ := F1.out y c5
                    cases ea
                    by_cases c6 : (rd_T30 l0 (y : Int)).f2.toList = sb.toList
                    · have st := Aside0.mk (forth_step_ c5 c6)
                      obtain ⟨sy, hsy⟩ : ∃ z, (rd_T30 l0 (y : Int)).f2 = z := ⟨_, rfl⟩
                      rw [hsy] at ky c6
                      have c6' : (sy.toList == sb.toList) = true := beq_iff_eq.mpr c6
                      clear c6 hsy
                      go_wp2
                      go_round
                      case rel => exact ⟨y + 1, by go_num, by omega, ⟨st.out.trans HY.out⟩⟩
                      case measure => simp [intOf] <;> omega
                    · have st := Aside0.mk (forth_stop_ (fun _ => c6))
                      obtain ⟨sy, hsy⟩ : ∃ z, (rd_T30 l0 (y : Int)).f2 = z := ⟨_, rfl⟩
                      rw [hsy] at ky c6
                      have c6' : (sy.toList == sb.toList) = false := beq_eq_false_iff_ne.mpr c6
                      clear c6 hsy
                      go_wp2
                      go_ret2
                      exact ⟨by rw [HR1.out, HR2.out, ← HX.out, bx.out, ← HY.out, st.out]; rfl, Below.refl _ _⟩
                  · have st := Aside0.mk (forth_stop_ (h := sb) (l := l0) (i := y) (fun h_ => absurd h_ c5))
                    go_wp2
                    go_ret2
                    exact ⟨by rw [HR1.out, HR2.out, ← HX.out, bx.out, ← HY.out, st.out]; rfl, Below.refl _ _⟩
      · have hh_ := HS'.out
        unfold href_ at hh_
        rw [if_pos c1, hsa, if_neg e0_] at hh_
        subst hh_
        clear HS' hsa
        have e_ := e0_
        have t1_ : (!sa.toList.isEmpty) = true := by cases h_ : sa.toList with | nil => exact absurd h_ e_ | cons _ _ => rfl
        have t2_ : sa.toList.isEmpty = false := by cases h_ : sa.toList with | nil => exact absurd h_ e_ | cons _ _ => rfl
        have NE := Aside0.mk e_
        clear e_ e0_
        have HR1 : Aside0 (r1 = ((back_ sa l0 q : Nat) : Int)) := by have h_ := H.out; unfold within_ at h_; rw [if_neg NE.out] at h_; simp only [Option.some.injEq, Prod.mk.injEq] at h_; exact ⟨h_.1.symm⟩
        have HR2 : Aside0 (r2 = ((forth_ sa l0 (l0.length - q) q : Nat) : Int)) := by have h_ := H.out; unfold within_ at h_; rw [if_neg NE.out] at h_; simp only [Option.some.injEq, Prod.mk.injEq] at h_; exact ⟨h_.2.symm⟩
        clear H
        go_enter Try.func10, Try.ntmps10
        go_wp2_with ((go_at_call 23; refine HS.out.mono ?_; rintro e w' ⟨rfl, rfl⟩))
        go_loop [4] (fun v => ∃ x : Nat, v = .int .i64 (x : Int) ∧ x ≤ q ∧ Aside0 (back_ sa l0 x = back_ sa l0 q)) (fun v => (intOf v).toNat)
        case atStart => exact ⟨q, rfl, Nat.le_refl _, ⟨rfl⟩⟩
        case round =>
          obtain ⟨x, rfl, hx, HX⟩ := hrel
          cases x with
          | zero =>
            have bx : Aside0 (back_ sa l0 0 = 0) := ⟨rfl⟩
            go_wp2
            go_loop [5] (fun v => ∃ y : Nat, v = .int .i64 (y : Int) ∧ y ≤ l0.length ∧ Aside0 (forth_ sa l0 (l0.length - y) y = forth_ sa l0 (l0.length - q) q)) (fun v => l0.length - (intOf v).toNat)
            case atStart => exact ⟨q, rfl, by omega, ⟨rfl⟩⟩
            case round =>
              obtain ⟨y, rfl, hy, HY⟩ := hrel
              by_cases c5 : y < l0.length
              · obtain ⟨ad, ea, ky⟩ := F1.out y c5
                cases ea
                by_cases c6 : (rd_T30 l0 (y : Int)).f2.toList = sa.toList
                · have st := Aside0.mk (forth_step_ c5 c6)
                  obtain ⟨sy, hsy⟩ : ∃ z, (rd_T30 l0 (y : Int)).f2 = z := ⟨_, rfl⟩
                  rw [hsy] at ky c6
                  have c6' : (sy.toList == sa.toList) = true := beq_iff_eq.mpr c6
                  clear c6 hsy
                  go_wp2
                  go_round
                  case rel => exact ⟨y + 1, by go_num, by omega, ⟨st.out.trans HY.out⟩⟩
                  case measure => simp [intOf] <;> omega
                · have st := Aside0.mk (forth_stop_ (fun _ => c6))
                  obtain ⟨sy, hsy⟩ : ∃ z, (rd_T30 l0 (y : Int)).f2 = z := ⟨_, rfl⟩
                  rw [hsy] at ky c6
                  have c6' : (sy.toList == sa.toList) = false := beq_eq_false_iff_ne.mpr c6
                  clear c6 hsy
                  go_wp2
                  go_ret2
                  exact ⟨by rw [HR1.out, HR2.out, ← HX.out, bx.out, ← HY.out, st.out]; rfl, Below.refl _ _⟩
              · have st := Aside0.mk (forth_stop_ (h := sa) (l := l0) (i := y) (fun h_ => absurd h_ c5))
                go_wp2
                go_ret2
                exact ⟨by rw [HR1.out, HR2.out, ← HX.out, bx.out, ← HY.out, st.out]; rfl, Below.refl _ _⟩
          | succ x =>
            obtain ⟨ad, ea, kx⟩ := F1.out x (by omega)
            cases ea
            by_cases c4 : (rd_T30 l0 (x : Int)).f2.toList = sa.toList
            · have bx : Aside0 (back_ sa l0 (x + 1) = back_ sa l0 x) := ⟨by simp only [back_]; rw [if_pos c4]⟩
              obtain ⟨sx, hsx⟩ : ∃ z, (rd_T30 l0 (x : Int)).f2 = z := ⟨_, rfl⟩
              rw [hsx] at kx c4
              have c4' : (sx.toList == sa.toList) = true := beq_iff_eq.mpr c4
              clear c4 hsx
              go_wp2
              go_round
              case rel => exact ⟨x, by go_num, by omega, ⟨bx.out.symm.trans HX.out⟩⟩
              case measure => simp [intOf] <;> omega
            · have bx : Aside0 (back_ sa l0 (x + 1) = x + 1) := ⟨by simp only [back_]; rw [if_neg c4]⟩
              obtain ⟨sx, hsx⟩ : ∃ z, (rd_T30 l0 (x : Int)).f2 = z := ⟨_, rfl⟩
              rw [hsx] at kx c4
              have c4' : (sx.toList == sa.toList) = false := beq_eq_false_iff_ne.mpr c4
              clear c4 hsx
              go_wp2
              go_loop [5] (fun v => ∃ y : Nat, v = .int .i64 (y : Int) ∧ y ≤ l0.length ∧ Aside0 (forth_ sa l0 (l0.length - y) y = forth_ sa l0 (l0.length - q) q)) (fun v => l0.length - (intOf v).toNat)
              case atStart => exact ⟨q, rfl, by omega, ⟨rfl⟩⟩
              case round =>
                obtain ⟨y, rfl, hy, HY⟩ := hrel
                by_cases c5 : y < l0.length
                · obtain ⟨ad, ea, ky⟩ := F1.out y c5
                  cases ea
                  by_cases c6 : (rd_T30 l0 (y : Int)).f2.toList = sa.toList
                  · have st := Aside0.mk (forth_step_ c5 c6)
                    obtain ⟨sy, hsy⟩ : ∃ z, (rd_T30 l0 (y : Int)).f2 = z := ⟨_, rfl⟩
                    rw [hsy] at ky c6
                    have c6' : (sy.toList == sa.toList) = true := beq_iff_eq.mpr c6
                    clear c6 hsy
                    go_wp2
                    go_round
                    case rel => exact ⟨y + 1, by go_num, by omega, ⟨st.out.trans HY.out⟩⟩
                    case measure => simp [intOf] <;> omega
                  · have st := Aside0.mk (forth_stop_ (fun _ => c6))
                    obtain ⟨sy, hsy⟩ : ∃ z, (rd_T30 l0 (y : Int)).f2 = z := ⟨_, rfl⟩
                    rw [hsy] at ky c6
                    have c6' : (sy.toList == sa.toList) = false := beq_eq_false_iff_ne.mpr c6
                    clear c6 hsy
                    go_wp2
                    go_ret2
                    exact ⟨by rw [HR1.out, HR2.out, ← HX.out, bx.out, ← HY.out, st.out]; rfl, Below.refl _ _⟩
                · have st := Aside0.mk (forth_stop_ (h := sa) (l := l0) (i := y) (fun h_ => absurd h_ c5))
                  go_wp2
                  go_ret2
                  exact ⟨by rw [HR1.out, HR2.out, ← HX.out, bx.out, ← HY.out, st.out]; rfl, Below.refl _ _⟩
    · obtain ⟨ad, ea, ka⟩ := F1.out (q - 1) (by omega)
      cases ea
      obtain ⟨sa, hsa⟩ : ∃ z, (rd_T30 l0 ((q - 1 : Nat) : Int)).f2 = z := ⟨_, rfl⟩
      rw [hsa] at ka
      rw [if_pos (show (0:Int) < (q:Int) by omega), if_neg (show ¬ (q:Int) < (l0.length:Int) by omega), Option.map_some] at HS
      by_cases e0_ : sa.toList = []
      · have hh_ := HS'.out
        unfold href_ at hh_
        rw [if_pos c1, hsa, if_pos e0_, if_neg c2] at hh_
        subst hh_
        clear HS' hsa
        have e_ := e0_
        have t1_ : (!sa.toList.isEmpty) = false := by rw [e_]; rfl
        have t2_ : sa.toList.isEmpty = true := by rw [e_]; rfl
        clear e_ e0_
        have EQ : Aside0 ((⟨#[]⟩ : ByteArray).toList = []) := ⟨by kernel_rfl⟩
        have H2 : ((q : Int), (q : Int)) = (r1, r2) := by have h_ := H.out; unfold within_ at h_; rw [if_pos EQ.out] at h_; exact Option.some.inj h_
        clear H
        cases H2
        go_enter Try.func10, Try.ntmps10
        go_wp2_with ((go_at_call 23; refine HS.out.mono ?_; rintro e w' ⟨rfl, rfl⟩))
        go_ret2
        exact ⟨rfl, Below.refl _ _⟩
      · have hh_ := HS'.out
        unfold href_ at hh_
        rw [if_pos c1, hsa, if_neg e0_] at hh_
        subst hh_
        clear HS' hsa
        have e_ := e0_
        have t1_ : (!sa.toList.isEmpty) = true := by cases h_ : sa.toList with | nil => exact absurd h_ e_ | cons _ _ => rfl
        have t2_ : sa.toList.isEmpty = false := by cases h_ : sa.toList with | nil => exact absurd h_ e_ | cons _ _ => rfl
        have NE := Aside0.mk e_
        clear e_ e0_
        have HR1 : Aside0 (r1 = ((back_ sa l0 q : Nat) : Int)) := by have h_ := H.out; unfold within_ at h_; rw [if_neg NE.out] at h_; simp only [Option.some.injEq, Prod.mk.injEq] at h_; exact ⟨h_.1.symm⟩
        have HR2 : Aside0 (r2 = ((forth_ sa l0 (l0.length - q) q : Nat) : Int)) := by have h_ := H.out; unfold within_ at h_; rw [if_neg NE.out] at h_; simp only [Option.some.injEq, Prod.mk.injEq] at h_; exact ⟨h_.2.symm⟩
        clear H
        go_enter Try.func10, Try.ntmps10
        go_wp2_with ((go_at_call 23; refine HS.out.mono ?_; rintro e w' ⟨rfl, rfl⟩))
        go_loop [4] (fun v => ∃ x : Nat, v = .int .i64 (x : Int) ∧ x ≤ q ∧ Aside0 (back_ sa l0 x = back_ sa l0 q)) (fun v => (intOf v).toNat)
        case atStart => exact ⟨q, rfl, Nat.le_refl _, ⟨rfl⟩⟩
        case round =>
          obtain ⟨x, rfl, hx, HX⟩ := hrel
          cases x with
          | zero =>
            have bx : Aside0 (back_ sa l0 0 = 0) := ⟨rfl⟩
            go_wp2
            go_loop [5] (fun v => ∃ y : Nat, v = .int .i64 (y : Int) ∧ y ≤ l0.length ∧ Aside0 (forth_ sa l0 (l0.length - y) y = forth_ sa l0 (l0.length - q) q)) (fun v => l0.length - (intOf v).toNat)
            case atStart => exact ⟨q, rfl, by omega, ⟨rfl⟩⟩
            case round =>
              obtain ⟨y, rfl, hy, HY⟩ := hrel
              by_cases c5 : y < l0.length
              · obtain ⟨ad, ea, ky⟩ := F1.out y c5
                cases ea
                by_cases c6 : (rd_T30 l0 (y : Int)).f2.toList = sa.toList
                · have st := Aside0.mk (forth_step_ c5 c6)
                  obtain ⟨sy, hsy⟩ : ∃ z, (rd_T30 l0 (y : Int)).f2 = z := ⟨_, rfl⟩
                  rw [hsy] at ky c6
                  have c6' : (sy.toList == sa.toList) = true := beq_iff_eq.mpr c6
                  clear c6 hsy
                  go_wp2
                  go_round
                  case rel => exact ⟨y + 1, by go_num, by omega, ⟨st.out.trans HY.out⟩⟩
                  case measure => simp [intOf] <;> omega
                · have st := Aside0.mk (forth_stop_ (fun _ => c6))
                  obtain ⟨sy, hsy⟩ : ∃ z, (rd_T30 l0 (y : Int)).f2 = z := ⟨_, rfl⟩
                  rw [hsy] at ky c6
                  have c6' : (sy.toList == sa.toList) = false := beq_eq_false_iff_ne.mpr c6
                  clear c6 hsy
                  go_wp2
                  go_ret2
                  exact ⟨by rw [HR1.out, HR2.out, ← HX.out, bx.out, ← HY.out, st.out]; rfl, Below.refl _ _⟩
              · have st := Aside0.mk (forth_stop_ (h := sa) (l := l0) (i := y) (fun h_ => absurd h_ c5))
                go_wp2
                go_ret2
                exact ⟨by rw [HR1.out, HR2.out, ← HX.out, bx.out, ← HY.out, st.out]; rfl, Below.refl _ _⟩
          | succ x =>
            obtain ⟨ad, ea, kx⟩ := F1.out x (by omega)
            cases ea
            by_cases c4 : (rd_T30 l0 (x : Int)).f2.toList = sa.toList
            · have bx : Aside0 (back_ sa l0 (x + 1) = back_ sa l0 x) := ⟨by simp only [back_]; rw [if_pos c4]⟩
              obtain ⟨sx, hsx⟩ : ∃ z, (rd_T30 l0 (x : Int)).f2 = z := ⟨_, rfl⟩
              rw [hsx] at kx c4
              have c4' : (sx.toList == sa.toList) = true := beq_iff_eq.mpr c4
              clear c4 hsx
              go_wp2
              go_round
              case rel => exact ⟨x, by go_num, by omega, ⟨bx.out.symm.trans HX.out⟩⟩
              case measure => simp [intOf] <;> omega
            · have bx : Aside0 (back_ sa l0 (x + 1) = x + 1) := ⟨by simp only [back_]; rw [if_neg c4]⟩
              obtain ⟨sx, hsx⟩ : ∃ z, (rd_T30 l0 (x : Int)).f2 = z := ⟨_, rfl⟩
              rw [hsx] at kx c4
              have c4' : (sx.toList == sa.toList) = false := beq_eq_false_iff_ne.mpr c4
              clear c4 hsx
              go_wp2
              go_loop [5] (fun v => ∃ y : Nat, v = .int .i64 (y : Int) ∧ y ≤ l0.length ∧ Aside0 (forth_ sa l0 (l0.length - y) y = forth_ sa l0 (l0.length - q) q)) (fun v => l0.length - (intOf v).toNat)
              case atStart => exact ⟨q, rfl, by omega, ⟨rfl⟩⟩
              case round =>
                obtain ⟨y, rfl, hy, HY⟩ := hrel
                by_cases c5 : y < l0.length
                · obtain ⟨ad, ea, ky⟩ := F1.out y c5
                  cases ea
                  by_cases c6 : (rd_T30 l0 (y : Int)).f2.toList = sa.toList
                  · have st := Aside0.mk (forth_step_ c5 c6)
                    obtain ⟨sy, hsy⟩ : ∃ z, (rd_T30 l0 (y : Int)).f2 = z := ⟨_, rfl⟩
                    rw [hsy] at ky c6
                    have c6' : (sy.toList == sa.toList) = true := beq_iff_eq.mpr c6
                    clear c6 hsy
                    go_wp2
                    go_round
                    case rel => exact ⟨y + 1, by go_num, by omega, ⟨st.out.trans HY.out⟩⟩
                    case measure => simp [intOf] <;> omega
                  · have st := Aside0.mk (forth_stop_ (fun _ => c6))
                    obtain ⟨sy, hsy⟩ : ∃ z, (rd_T30 l0 (y : Int)).f2 = z := ⟨_, rfl⟩
                    rw [hsy] at ky c6
                    have c6' : (sy.toList == sa.toList) = false := beq_eq_false_iff_ne.mpr c6
                    clear c6 hsy
                    go_wp2
                    go_ret2
                    exact ⟨by rw [HR1.out, HR2.out, ← HX.out, bx.out, ← HY.out, st.out]; rfl, Below.refl _ _⟩
                · have st := Aside0.mk (forth_stop_ (h := sa) (l := l0) (i := y) (fun h_ => absurd h_ c5))
                  go_wp2
                  go_ret2
                  exact ⟨by rw [HR1.out, HR2.out, ← HX.out, bx.out, ← HY.out, st.out]; rfl, Below.refl _ _⟩
  · by_cases c2 : q < l0.length
    · obtain ⟨ad, ea, kb⟩ := F1.out q c2
      cases ea
      obtain ⟨sb, hsb⟩ : ∃ z, (rd_T30 l0 (q : Int)).f2 = z := ⟨_, rfl⟩
      rw [hsb] at kb
      rw [if_neg (show ¬ (0:Int) < (q:Int) by omega), if_pos (show (q:Int) < (l0.length:Int) by omega), Option.map_some] at HS
      have hh_ := HS'.out
      unfold href_ at hh_
      rw [if_neg c1, if_pos c2, hsb] at hh_
      subst hh_
      clear HS' hsb
      by_cases e_ : sb.toList = []
      · have t1_ : (!sb.toList.isEmpty) = false := by rw [e_]; rfl
        have t2_ : sb.toList.isEmpty = true := by rw [e_]; rfl
        have EQ := Aside0.mk e_
        clear e_
        have H2 : ((q : Int), (q : Int)) = (r1, r2) := by have h_ := H.out; unfold within_ at h_; rw [if_pos EQ.out] at h_; exact Option.some.inj h_
        clear H
        cases H2
        go_enter Try.func10, Try.ntmps10
        go_wp2_with ((go_at_call 23; refine HS.out.mono ?_; rintro e w' ⟨rfl, rfl⟩))
        go_ret2
        exact ⟨rfl, Below.refl _ _⟩
      · have t1_ : (!sb.toList.isEmpty) = true := by cases h_ : sb.toList with | nil => exact absurd h_ e_ | cons _ _ => rfl
        have t2_ : sb.toList.isEmpty = false := by cases h_ : sb.toList with | nil => exact absurd h_ e_ | cons _ _ => rfl
        have NE := Aside0.mk e_
        clear e_
        have HR1 : Aside0 (r1 = ((back_ sb l0 q : Nat) : Int)) := by have h_ := H.out; unfold within_ at h_; rw [if_neg NE.out] at h_; simp only [Option.some.injEq, Prod.mk.injEq] at h_; exact ⟨h_.1.symm⟩
        have HR2 : Aside0 (r2 = ((forth_ sb l0 (l0.length - q) q : Nat) : Int)) := by have h_ := H.out; unfold within_ at h_; rw [if_neg NE.out] at h_; simp only [Option.some.injEq, Prod.mk.injEq] at h_; exact ⟨h_.2.symm⟩
        clear H
        go_enter Try.func10, Try.ntmps10
        go_wp2_with ((go_at_call 23; refine HS.out.mono ?_; rintro e w' ⟨rfl, rfl⟩))
        go_loop [4] (fun v => ∃ x : Nat, v = .int .i64 (x : Int) ∧ x ≤ q ∧ Aside0 (back_ sb l0 x = back_ sb l0 q)) (fun v => (intOf v).toNat)
        case atStart => exact ⟨q, rfl, Nat.le_refl _, ⟨rfl⟩⟩
        case round =>
          obtain ⟨x, rfl, hx, HX⟩ := hrel
          cases x with
          | zero =>
            have bx : Aside0 (back_ sb l0 0 = 0) := ⟨rfl⟩
            go_wp2
            go_loop [5] (fun v => ∃ y : Nat, v = .int .i64 (y : Int) ∧ y ≤ l0.length ∧ Aside0 (forth_ sb l0 (l0.length - y) y = forth_ sb l0 (l0.length - q) q)) (fun v => l0.length - (intOf v).toNat)
            case atStart => exact ⟨q, rfl, by omega, ⟨rfl⟩⟩
            case round =>
              obtain ⟨y, rfl, hy, HY⟩ := hrel
              by_cases c5 : y < l0.length
              · obtain ⟨ad, ea, ky⟩ := F1.out y c5
                cases ea
                by_cases c6 : (rd_T30 l0 (y : Int)).f2.toList = sb.toList
                · have st := Aside0.mk (forth_step_ c5 c6)
                  obtain ⟨sy, hsy⟩ : ∃ z, (rd_T30 l0 (y : Int)).f2 = z := ⟨_, rfl⟩
                  rw [hsy] at ky c6
                  have c6' : (sy.toList == sb.toList) = true := beq_iff_eq.mpr c6
                  clear c6 hsy
                  go_wp2
                  go_round
                  case rel => exact ⟨y + 1, by go_num, by omega, ⟨st.out.trans HY.out⟩⟩
                  case measure => simp [intOf] <;> omega
                · have st := Aside0.mk (forth_stop_ (fun _ => c6))
                  obtain ⟨sy, hsy⟩ : ∃ z, (rd_T30 l0 (y : Int)).f2 = z := ⟨_, rfl⟩
                  rw [hsy] at ky c6
                  have c6' : (sy.toList == sb.toList) = false := beq_eq_false_iff_ne.mpr c6
                  clear c6 hsy
                  go_wp2
                  go_ret2
                  exact ⟨by rw [HR1.out, HR2.out, ← HX.out, bx.out, ← HY.out, st.out]; rfl, Below.refl _ _⟩
              · have st := Aside0.mk (forth_stop_ (h := sb) (l := l0) (i := y) (fun h_ => absurd h_ c5))
                go_wp2
                go_ret2
                exact ⟨by rw [HR1.out, HR2.out, ← HX.out, bx.out, ← HY.out, st.out]; rfl, Below.refl _ _⟩
          | succ x =>
            omega
    · rw [if_neg (show ¬ (0:Int) < (q:Int) by omega), if_neg (show ¬ (q:Int) < (l0.length:Int) by omega)] at HS
      have hh_ := HS'.out
      unfold href_ at hh_
      rw [if_neg c1, if_neg c2] at hh_
      subst hh_
      clear HS'
      have EQ : Aside0 ((⟨#[]⟩ : ByteArray).toList = []) := ⟨by kernel_rfl⟩
      have H2 : ((q : Int), (q : Int)) = (r1, r2) := by have h_ := H.out; unfold within_ at h_; rw [if_pos EQ.out] at h_; exact Option.some.inj h_
      clear H
      cases H2
      go_enter Try.func10, Try.ntmps10
      go_wp2_with ((go_at_call 23; refine HS.out.mono ?_; rintro e w' ⟨rfl, rfl⟩))
      go_ret2
      exact ⟨rfl, Below.refl _ _⟩

end Go.Proofs.Ytgdpknmffohhaaa.Pr
