/- What turns a line: its last list, the closures, and lines.turned. -/
import Derived.Test.YtgdpknmffohhaaaDoorLineOwn
import Derived.Test.YtgdpknmffohhaaaDoorLineMay
namespace Go.Proofs.YtgdpknmffohhaaaDoor.Pl
open Go.RowKit Go.Lib Go.Proofs.YtgdpknmffohhaaaDoorW.PrintWords Go.Proofs.YtgdpknmffohhaaaDoorW.PrintLast Go.Proofs.YtgdpknmffohhaaaDoorW.PrintMore
set_option linter.unusedVariables false
section
variable {P : Program}
theorem cut_hm_ (t e : TypeId) (kh km : IntKind) {i : TypeInfo} (ht : P.underlying t = some (.slice e)) (hi : P.info? e = some i) (A : Option Addr) (n c : Nat) (j : Int) (h0 : 0 ≤ j) (hm : j ≤ n) (hc : n ≤ c) :
    ∀ W : World, (Instr.slice t (.slice A n c) none (some (.int kh j)) (some (.int km j))).run P W = .ok (.slice A j.toNat j.toNat) W := by
  intro W
  have hel : P.elem t = e := by simp [Program.elem, ht]
  have hu : P.underlying t = some (.slice (P.elem t)) := by rw [hel]; exact ht
  have ha : (A.map fun x => x.add 0) = A := by cases A <;> simp [Addr.add]
  rw [run_slice_hm W t A n c hu kh km j j h0 (Int.le_refl _) (by omega), hel]
  simp [sizeOf, typeInfo, hi, sliced, Result.andThen, ha]
end
def lastF (ls : List Int) : Int := if ls.length = 0 then -1 else rd ls ((ls.length : Int) - 1)
theorem lastF_snoc (l : List Int) (a : Int) : lastF (l ++ [a]) = a := by
  unfold lastF rd
  rw [if_neg (by simp), List.length_append, List.length_singleton, show (((l.length + 1 : Nat) : Int) - 1).toNat = l.length by omega]
  simp
theorem infoI_ : ∃ i, Tryd.prog.info? 3 = some i ∧ i.size = 1 := by
  obtain ⟨i, hi, h⟩ := Option.map_eq_some_iff.1 info3
  simp only [Prod.mk.injEq] at h
  exact ⟨i, hi, h.2.1⟩
set_option maxRecDepth 100000 in
set_option maxHeartbeats 4000000 in
theorem last_calls_ (ls : List Int) (b : Nat) (v1 : Value) (w : World) (h1 : w.cell? ⟨b, 1, none⟩ = some v1) (hr : Rd (Kd.int .i64) w v1 ls) :
    Calls Tryd.prog 90 #[.pointer (some ⟨b, 0, none⟩)] w fun e w' => e = .returned (.int .i64 (lastF ls)) ∧ Drawn0 w w' := by
  have hu38 := Tryd.underlying38
  have hl := hr.len
  obtain ⟨A, c, rfl, hC, hc⟩ := hr
  by_cases h0 : ls.length = 0
  · have e0 : (ls.length == 0) = true := beq_iff_eq.mpr h0
    have E := Aside0.mk (show lastF ls = -1 by unfold lastF; rw [if_pos h0])
    clear hC
    go_enter Tryd.func90, Tryd.ntmps90
    go_wp2
    go_ret
    exact ⟨by rw [E.out]; rfl, ⟨⟨0, rfl⟩⟩⟩
  · obtain ⟨n, hn⟩ : ∃ n, ls.length = n + 1 := ⟨ls.length - 1, by omega⟩
    have E := Aside0.mk (show lastF ls = rd ls (n : Int) by unfold lastF; rw [if_neg h0, hn]; congr 1; omega)
    obtain ⟨ad, e1, g⟩ := atI_ hC (n : Int) (by omega) (by omega)
    rw [Int.toNat_natCast] at g
    cases e1
    rw [hn] at hl h1 hc
    clear hC h0
    have hw : IntKind.i64.wrap (((n + 1 : Nat) : Int) - 1) = (n : Int) := by rw [i64_w]; unfold wrap64; omega
    go_enter Tryd.func90, Tryd.ntmps90
    go_wp2
    go_quiet (fail)
    go_wp2
    go_ret
    exact ⟨by rw [E.out]; rfl, ⟨⟨nq, rfl⟩⟩⟩
/-- a line's box -/
def Box_ (W : World) (b : Nat) (q : Int) (v1 : Value) (k : Int) (v3 : Value) : Prop := W.heap[b]? = some (.cells #[.int .i64 q, v1, .int .i64 k, v3] 38 (0, 0))
theorem Box_.c0 {W : World} {b : Nat} {q k : Int} {v1 v3 : Value} (h : Box_ W b q v1 k v3) : W.cell? ⟨b, 0, none⟩ = some (.int .i64 q) := (blk_cell h 0).trans rfl
theorem Box_.c1 {W : World} {b : Nat} {q k : Int} {v1 v3 : Value} (h : Box_ W b q v1 k v3) : W.cell? ⟨b, 1, none⟩ = some v1 := (blk_cell h 1).trans rfl
theorem Box_.c2 {W : World} {b : Nat} {q k : Int} {v1 v3 : Value} (h : Box_ W b q v1 k v3) : W.cell? ⟨b, 2, none⟩ = some (.int .i64 k) := (blk_cell h 2).trans rfl
theorem Box_.c3 {W : World} {b : Nat} {q k : Int} {v1 v3 : Value} (h : Box_ W b q v1 k v3) : W.cell? ⟨b, 3, none⟩ = some v3 := (blk_cell h 3).trans rfl
/-- what a closure that turns a line has to do -/
def After_ (w0 : World) (b : Nat) (W : World) (v3 : Value) (r : Bool) (y : Ln) (e : Ending) (W' : World) : Prop :=
  ∃ u1, e = .returned (.bool r) ∧ Box_ W' b y.q u1 y.k v3 ∧ Wr (Kd.int .i64) 3 W' w0.heap.size u1 y.ls ∧ Wr k71 71 W' w0.heap.size v3 y.cs ∧ Below w0.heap.size w0 W' ∧
    ∀ o cells, o ≠ b → W.heap[o]? = some (.cells cells 38 (0, 0)) → W'.heap[o]? = some (.cells cells 38 (0, 0))
def Turns_ (w0 : World) (g : Nat) (lb : Array Value) (F : Ln → Bool × Ln) : Prop :=
  ∀ (x : Ln) (W : World) (b : Nat) (v1 v3 : Value), mayL x = true → Sz x → Box_ W b x.q v1 x.k v3 → Kd.R (Kd.int .i64) 3 W w0.heap.size (fun _ => True) v1 x.ls → Kd.R k71 71 W w0.heap.size (fun _ => True) v3 x.cs →
    w0.heap.size ≤ b → Below w0.heap.size w0 W → Calls Tryd.prog g (#[.pointer (some ⟨b, 0, none⟩)] ++ lb) W fun e W' => After_ w0 b W v3 (F x).1 (F x).2 e W'
def dropF (ls : List Int) : List Int := ls.take (ls.length - 1)
theorem Wr_shut_ {W : World} {base : Nat} {A : Option Addr} {c n : Nat} {ls : List Int} (h : Kd.R (Kd.int .i64) 3 W base (fun _ => True) (.slice A ls.length c) ls) (hn : n + 1 = ls.length) : Wr (Kd.int .i64) 3 W base (.slice A n n) (dropF ls) := by
  obtain ⟨_, h1, h2⟩ := Kd.R_reads' h
  have hl : (dropF ls).length = n := by unfold dropF; rw [List.length_take]; omega
  have h3 := Kd.C_take h2 (show ls.length - 1 ≤ ls.length by omega)
  refine ⟨A, n, by rw [hl], h3, by omega, fun hp => ?_⟩
  obtain ⟨g, cap, e1, h4, h5, cells, h6⟩ := Kd.R_form h (by omega)
  injection e1 with e2
  exact ⟨g, 0, cells, e2, h4, h6⟩
set_option maxRecDepth 100000 in
set_option maxHeartbeats 4000000 in
theorem lift_none_ (x : Ln) (b : Nat) (v1 v3 : Value) (w : World) (hb : Box_ w b x.q v1 x.k v3) (hr : Rd (Kd.int .i64) w v1 x.ls) (h0 : x.ls = []) :
    Calls Tryd.prog 92 #[.pointer (some ⟨b, 0, none⟩)] w fun e w' => e = .returned (.bool false) ∧ Drawn0 w w' := by
  have hu38 := Tryd.underlying38
  have HL := Aside0.mk (last_calls_ x.ls b v1 w hb.c1 hr)
  have hl : lastF x.ls = -1 := by rw [h0]; rfl
  rw [hl] at HL
  clear hr hl hb
  go_enter Tryd.func92, Tryd.ntmps92
  go_wp2_with (go_at_call 90; refine HL.out.mono ?_; rintro e w' ⟨rfl, ⟨nd, rfl⟩⟩)
  go_ret
  exact ⟨rfl, ⟨⟨nd, rfl⟩⟩⟩
set_option maxRecDepth 100000 in
set_option maxHeartbeats 4000000 in
theorem lift_some_ (x : Ln) (b n : Nat) (A : Option Addr) (c : Nat) (v3 : Value) (w : World) (hb : Box_ w b x.q (.slice A x.ls.length c) x.k v3) (hr : Rd (Kd.int .i64) w (.slice A x.ls.length c) x.ls) (hn : n + 1 = x.ls.length) (h0 : 0 ≤ lastF x.ls) :
    Calls Tryd.prog 92 #[.pointer (some ⟨b, 0, none⟩)] w fun e w' => e = .returned (.bool true) ∧ ∃ nd, w' = (w.drewN nd).setCell ⟨b, 1, none⟩ (.slice A n n) := by
  have hu38 := Tryd.underlying38
  have HL := Aside0.mk (last_calls_ x.ls b _ w hb.c1 hr)
  have hl := hr.len
  obtain ⟨A', c', e1, hC, hc⟩ := hr
  injection e1 with e2 _ e3
  subst e2
  subst e3
  obtain ⟨i, hi, _⟩ := infoI_
  have q := cut_hm_ (P := Tryd.prog) 35 3 .i64 .i64 Tryd.underlying35 hi A (n + 1) c (n : Int) (by omega) (by omega) (by omega)
  rw [Int.toNat_natCast] at q
  have hc1 := hb.c1
  have hf1 : w.frozen? ⟨b, 1, none⟩ = false := blk_frozen hb 1
  have d1 : decide (lastF x.ls < 0) = false := decide_eq_false (by omega)
  rw [← hn] at hc1 hl
  have hw : IntKind.i64.wrap (((n + 1 : Nat) : Int) - 1) = (n : Int) := by rw [i64_w]; unfold wrap64; omega
  clear hC hc hb h0 hn
  go_enter Tryd.func92, Tryd.ntmps92
  go_wp2_with (go_at_call 90; refine HL.out.mono ?_; rintro e w' ⟨rfl, ⟨nd, rfl⟩⟩)
  go_ret
  exact ⟨rfl, nd, rfl⟩
end Go.Proofs.YtgdpknmffohhaaaDoor.Pl
