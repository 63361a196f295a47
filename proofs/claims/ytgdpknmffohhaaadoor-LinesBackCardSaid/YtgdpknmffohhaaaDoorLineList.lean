/- The closure of lines.List. -/
import Derived.Test.YtgdpknmffohhaaaDoorLineTurns
import Derived.BigRegion
namespace Go.Proofs.YtgdpknmffohhaaaDoor.Pl
open Go.RowKit Go.Lib Go.Proofs.YtgdpknmffohhaaaDoorW.PrintWords Go.Proofs.YtgdpknmffohhaaaDoorW.PrintLast Go.Proofs.YtgdpknmffohhaaaDoorW.PrintMore
set_option linter.unusedVariables false
theorem int_elem_ {W : World} {B g n cap : Nat} {ok : Nat → Prop} {xs : List Int} (h : Kd.R (Kd.int .i64) 3 W B ok (.slice (some ⟨g, 0, none⟩) n cap) xs) (k : Nat) (hk : k < xs.length) :
    W.cell? ⟨g, k, none⟩ = some (.int .i64 (rd xs (k : Int))) ∧ W.frozen? ⟨g, k, none⟩ = false ∧ ∀ b : Int, Kd.R (Kd.int .i64) 3 (W.setCell ⟨g, k, none⟩ (.int .i64 b)) B ok (.slice (some ⟨g, 0, none⟩) n cap) (xs.set k b) := by
  have hn : n = xs.length := (Kd.R_reads' h).1
  obtain ⟨ce, hcl, hM, hcc, hfr⟩ := Kd.R_elem h 0 (k : Int) (by omega) (by omega)
  obtain rfl : ce = [.int .i64 (rd xs (k : Int))] := hM
  have h0 := hcc 0 _ rfl
  have h1 := hfr 0
  have h2 := fun b : Int => (Kd.R_seg h (k : Int) (by omega) (by omega) (seg := [.int .i64 b]) (j := 0) hcl hcc (show 1 ≤ 1 from by decide) (x' := b) rfl (fun _ hk => hk)).1
  simp only [show (Kd.int .i64).sz = 1 from rfl, Nat.mul_one, Nat.add_zero, Int.toNat_natCast] at h0 h1 h2
  exact ⟨h0, h1, h2⟩
theorem Wr_one_ {W : World} {g base : Nat} {k : Int} (h : W.heap[g]? = some (.cells #[.int .i64 k] 3 (0, 0))) (hb : base ≤ g) : Wr (Kd.int .i64) 3 W base (.slice (some ⟨g, 0, none⟩) 1 1) [k] := by
  refine ⟨some ⟨g, 0, none⟩, 1, rfl, ⟨rfl, by simp, fun _ => ⟨_, rfl, fun j p hj => ?_⟩⟩, Nat.le_refl _, fun _ => ⟨g, 0, _, rfl, hb, h⟩⟩
  cases j with
  | zero =>
    cases hj
    refine ⟨[.int .i64 k], rfl, rfl, fun i u hu => ?_⟩
    cases i with
    | zero => cases hu; exact (blk_cell h 0).trans rfl
    | succ i => cases hu
  | succ j => simp at hj
set_option maxRecDepth 100000 in
set_option maxHeartbeats 4000000 in
theorem list_turns_ (w0 : World) (kind : Int) (bk : Nat) (hk : w0.cell? ⟨bk, 0, none⟩ = some (.int .i64 kind)) : Turns_ w0 93 #[.pointer (some ⟨bk, 0, none⟩)] (listF kind) := by
  intro x W b v1 v3 hm hz hb hr1 hr3 hbb hB
  show Calls Tryd.prog 93 #[.pointer (some ⟨b, 0, none⟩), .pointer (some ⟨bk, 0, none⟩)] W _
  have hu38 := Tryd.underlying38
  obtain ⟨A, c, rfl⟩ := Kd.R_slice hr1
  unfold listF
  have HL := Aside0.mk (last_calls_ x.ls b _ W hb.c1 (Wr.of_R hr1).rd)
  have HBX := Aside0.mk hb
  have H1 := Aside0.mk hr1
  have H3 := Aside0.mk hr3
  have HB := Aside0.mk hB
  have hbk : bk < w0.heap.size := World.block_lt_of_cell? _ _ hk
  have k0 : W.cell? ⟨bk, 0, none⟩ = some (.int .i64 kind) := (hB.cell hbk).trans hk
  have hne : bk ≠ b := by omega
  by_cases h0 : x.ls = []
  · rw [if_pos h0]
    have hl : lastF x.ls = -1 := by rw [h0]; rfl
    rw [hl] at HL
    have f1 : ∀ nd o', ((W.drewN nd).alloc o').frozen? ⟨b, 1, none⟩ = false := fun nd o' => blk_frozen (blk_alloc (blk_drewN hb nd) o') 1
    have f2 : ∀ nd o', ((W.drewN nd).alloc o').frozen? ⟨b, 2, none⟩ = false := fun nd o' => blk_frozen (blk_alloc (blk_drewN hb nd) o') 2
    have c1 : ∀ nd o', ((W.drewN nd).alloc o').cell? ⟨b, 1, none⟩ = some (.slice A x.ls.length c) := fun nd o' => (blk_cell (blk_alloc (blk_drewN hb nd) o') 1).trans rfl
    have c2 : ∀ nd o', ((W.drewN nd).alloc o').cell? ⟨b, 2, none⟩ = some (.int .i64 x.k) := fun nd o' => (blk_cell (blk_alloc (blk_drewN hb nd) o') 2).trans rfl
    clear hk hb hr1 hr3 hB hm hz hbk hne hl h0
    go_enter Tryd.func93, Tryd.ntmps93
    go_wp2_with (go_at_call 90; refine HL.out.mono ?_; rintro e w' ⟨rfl, ⟨nd, rfl⟩⟩)
    go_ret
    have B1 : ((W.drewN nd).alloc (.cells #[.int .i64 kind] 3)).heap[b]? = some _ := blk_alloc (blk_drewN HBX.out nd) _
    have N1 : ((W.drewN nd).alloc (.cells #[.int .i64 kind] 3)).heap[W.heap.size]? = some (.cells #[.int .i64 kind] 3 (0, 0)) := heap_alloc_new (W.drewN nd) _
    have hlt : b < W.heap.size := blk_lt HBX.out
    refine ⟨_, rfl, blk_put (blk_put B1 1 _ rfl) 2 _ rfl, Wr_one_ (blk_off_ (blk_off_ N1 (by omega)) (by omega)) HB.out.size, Wr.of_R (R_put_ (R_put_ (Kd.R_alloc (Kd.R_drewN H3.out nd) _) B1 (by decide) 1 _) (blk_put B1 1 _ rfl) (by decide) 2 _), below_set (below_set (below_alloc (pw_below_drewN HB.out nd) _) hbb) hbb, fun o cells hne ho => blk_off_ (blk_off_ (blk_alloc (blk_drewN ho nd) _) hne) hne⟩
  · rw [if_neg h0]
    have hkm := lastF_may hm h0
    obtain ⟨n, hn⟩ : ∃ n, n + 1 = x.ls.length := ⟨x.ls.length - 1, by have := List.length_pos_iff.2 h0; omega⟩
    have d1 : decide (lastF x.ls < 0) = false := decide_eq_false (by omega)
    obtain ⟨g, cap, e1, hgb, hgl, cl, hcl⟩ := Kd.R_form hr1 (by omega)
    injection e1 with e2 _ e3
    subst e2
    subst e3
    obtain ⟨x0, f0, hset⟩ := int_elem_ hr1 n (by omega)
    have HSET := Aside0.mk (hset kind)
    have hgne : ∀ o cells, W.heap[o]? = some (.cells cells 38 (0, 0)) → o ≠ g := fun o cells ho e => by
      subst e
      rw [hcl] at ho
      injection ho with ho
      injection ho with _ ho
      exact absurd ho (by decide)
    have HGNE := Aside0.mk hgne
    have HCL := Aside0.mk hcl
    have c1 := hb.c1
    rw [← hn] at c1
    have hw : IntKind.i64.wrap (n : Int) = (n : Int) := by rw [i64_w]; unfold wrap64; have := (Wr.of_R hr1).rd.len; omega
    have k1 : ∀ m u, ((W.drewN m).setCell ⟨g, n, none⟩ u).cell? ⟨bk, 0, none⟩ = some (.int .i64 kind) := fun m u => (cell_far (W := W.drewN m) (p := ⟨g, n, none⟩) (show bk ≠ g by omega) u).trans k0
    have hn1 : x.ls.length - 1 = n := by omega
    rw [hn1]
    generalize lastF x.ls = kk at HL d1 ⊢
    have HGB := Aside0.mk hgb
    clear hk hb hr1 hr3 hB hm hz hbk hne h0 hkm hset hgne hgb hgl hcl hn1 hn
    go_enter Tryd.func93, Tryd.ntmps93
    go_wp2_with (go_at_call 90; refine HL.out.mono ?_; rintro e w' ⟨rfl, ⟨nd, rfl⟩⟩)
    go_region
    all_goals
      go_wp2
      go_ret
      refine ⟨_, rfl, blk_off_ (blk_drewN HBX.out _) (HGNE.out _ _ HBX.out), Wr.of_R (Kd.R_drewN HSET.out _), Wr.of_R (R_put_ (Kd.R_drewN H3.out _) (blk_drewN HCL.out _) (by decide) n _), below_set (pw_below_drewN HB.out _) HGB.out, fun o cells hne ho => blk_off_ (blk_drewN ho _) (HGNE.out _ _ ho)⟩
end Go.Proofs.YtgdpknmffohhaaaDoor.Pl
