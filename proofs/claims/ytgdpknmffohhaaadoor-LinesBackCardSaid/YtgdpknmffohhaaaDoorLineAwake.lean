/- The examples of chapter 06. -/
import Derived.Test.YtgdpknmffohhaaaDoorLineSplit
namespace Go.Proofs.YtgdpknmffohhaaaDoor.Pl
open Go.RowKit Go.Lib Go.Proofs.YtgdpknmffohhaaaDoorW.PrintWords Go.Proofs.YtgdpknmffohhaaaDoorW.PrintLast Go.Proofs.YtgdpknmffohhaaaDoorW.PrintMore
set_option linter.unusedVariables false
theorem two_cells_ {W : World} {g : Nat} {a b : S71} (h : W.heap[g]? = some (.cells #[.int .i32 a.f0, .int .i64 a.f1, .string a.f2, .int .i32 b.f0, .int .i64 b.f1, .string b.f2] 71 (0, 0))) : Kd.C k71 W (some ⟨g, 0, none⟩) 2 [a, b] := by
  refine ⟨rfl, by decide, fun _ => ⟨_, rfl, fun j p hj => ?_⟩⟩
  match j with
  | 0 =>
    cases hj
    refine ⟨[.int .i32 a.f0, .int .i64 a.f1, .string a.f2], rfl, k71_mk _ _, fun i u hu => ?_⟩
    match i with
    | 0 => cases hu; rw [add_plain]; exact (blk_cell h 0).trans rfl
    | 1 => cases hu; rw [add_plain]; exact (blk_cell h 1).trans rfl
    | 2 => cases hu; rw [add_plain]; exact (blk_cell h 2).trans rfl
    | i + 3 => cases hu
  | 1 =>
    cases hj
    refine ⟨[.int .i32 b.f0, .int .i64 b.f1, .string b.f2], rfl, k71_mk _ _, fun i u hu => ?_⟩
    match i with
    | 0 => cases hu; rw [add_plain]; exact (blk_cell h 3).trans rfl
    | 1 => cases hu; rw [add_plain]; exact (blk_cell h 4).trans rfl
    | 2 => cases hu; rw [add_plain]; exact (blk_cell h 5).trans rfl
    | i + 3 => cases hu
  | j + 2 => simp at hj
theorem ints_blk_ {W : World} {g : Nat} {xs : List Int} (h : W.heap[g]? = some (.cells (xs.map fun x => Value.int .i64 x).toArray 3 (0, 0))) (hn : xs.length ≤ 9223372036854775807) : Kd.C (Kd.int .i64) W (some ⟨g, 0, none⟩) xs.length xs := by
  refine ⟨rfl, hn, fun _ => ⟨_, rfl, fun j p hj => ⟨[.int .i64 p], rfl, rfl, fun i u hu => ?_⟩⟩⟩
  cases i with
  | zero =>
    cases hu
    rw [show j * (Kd.int .i64).sz + 0 = j from by show j * 1 + 0 = j; omega, add_plain, blk_cell h j]
    simp [hj]
  | succ i => simp at hu
def hAwake_ : Ln := ⟨0, [], 2, [⟨97, 0, ⟨#[]⟩⟩, ⟨98, 0, ⟨#[]⟩⟩]⟩
set_option maxRecDepth 100000 in
set_option maxHeartbeats 8000000 in
theorem awake06_calls_ (w : World) (hG : Gl_ w) :
    Calls Tryd.prog 25 #[] w fun e w' => e = .returned (.bool true) ∧ Below w.heap.size w w' := by
  have hu38 := Tryd.underlying38
  go_enter Tryd.func25, Tryd.ntmps25
  go_upto_region 2 with (fail)
  have F0 := blk_alloc (heap_alloc_new w (.cells #[.int .i32 97, .int .i64 0, .string ⟨#[]⟩, .int .i32 98, .int .i64 0, .string ⟨#[]⟩] 71)) (.cells #[.int .i64 0, .slice none 0 0, .int .i64 2, .slice (some ⟨w.heap.size, 0, none⟩) 2 2] 38)
  have F1 := heap_alloc_new (w.alloc (.cells #[.int .i32 97, .int .i64 0, .string ⟨#[]⟩, .int .i32 98, .int .i64 0, .string ⟨#[]⟩] 71)) (.cells #[.int .i64 0, .slice none 0 0, .int .i64 2, .slice (some ⟨w.heap.size, 0, none⟩) 2 2] 38)
  rw [World.size_alloc] at F1
  have FB := below_alloc (below_alloc (Below.refl w.heap.size w) (.cells #[.int .i32 97, .int .i64 0, .string ⟨#[]⟩, .int .i32 98, .int .i64 0, .string ⟨#[]⟩] 71)) (.cells #[.int .i64 0, .slice none 0 0, .int .i64 2, .slice (some ⟨w.heap.size, 0, none⟩) 2 2] 38)
  generalize (w.alloc (.cells #[.int .i32 97, .int .i64 0, .string ⟨#[]⟩, .int .i32 98, .int .i64 0, .string ⟨#[]⟩] 71)).alloc (.cells #[.int .i64 0, .slice none 0 0, .int .i64 2, .slice (some ⟨w.heap.size, 0, none⟩) 2 2] 38) = W1 at F0 F1 FB ⊢
  have HH := Aside0.mk (show RdL W1 (.agg #[.int .i64 0, .slice none 0 0, .int .i64 2, .slice (some ⟨w.heap.size, 0, none⟩) 2 2]) hAwake_ from ⟨_, _, rfl, Rd_nil _ _, ⟨_, 2, rfl, two_cells_ (a := ⟨97, 0, ⟨#[]⟩⟩) (b := ⟨98, 0, ⟨#[]⟩⟩) F0, Nat.le_refl _⟩⟩)
  have HSZ := Aside0.mk (show Sz hAwake_ from ⟨by decide, by decide, by decide⟩)
  have HG := Aside0.mk hG
  have HB1 := Aside0.mk FB
  have HF1 := Aside0.mk F1
  clear F0 FB hG
  have c0 : W1.cell? ⟨w.heap.size + 1, 0, none⟩ = some (.int .i64 0) := (blk_cell F1 0).trans rfl
  have c1 : W1.cell? ⟨w.heap.size + 1, 1, none⟩ = some (.slice none 0 0) := (blk_cell F1 1).trans rfl
  have c2 : W1.cell? ⟨w.heap.size + 1, 2, none⟩ = some (.int .i64 2) := (blk_cell F1 2).trans rfl
  have c3 : W1.cell? ⟨w.heap.size + 1, 3, none⟩ = some (.slice (some ⟨w.heap.size, 0, none⟩) 2 2) := (blk_cell F1 3).trans rfl
  clear F1
  have HS := Aside0.mk (split_calls_ hAwake_ 2 _ W1 HH.out HSZ.out (HG.out.below HB1.out))
  rw [show splitR hAwake_ 2 = (⟨0, [], 2, [⟨97, 0, ⟨#[]⟩⟩, ⟨98, 0, ⟨#[]⟩⟩]⟩, ⟨0, [], 0, []⟩, 0) by kernel_rfl] at HS
  go_upto_region 3 with (go_at_call 27; refine HS.out.mono ?_; rintro e w2 ⟨A1, a1, A3, a3, B1, b1, B3, b3, rfl, hwa, hwb, _, _, hb⟩; have HB2 := Aside0.mk hb; clear hb hwa hwb)
  obtain ⟨FA, FBx, FL⟩ := two_boxes_ w2 (.cells #[.int .i64 0, .slice A1 0 a1, .int .i64 2, .slice A3 2 a3] 38) (.cells #[.int .i64 0, .slice B1 0 b1, .int .i64 0, .slice B3 0 b3] 38)
  generalize (w2.alloc (.cells #[.int .i64 0, .slice A1 0 a1, .int .i64 2, .slice A3 2 a3] 38)).alloc (.cells #[.int .i64 0, .slice B1 0 b1, .int .i64 0, .slice B3 0 b3] 38) = W2 at FA FBx FL ⊢
  have HB3 := Aside0.mk (below_step (below_step HB1.out HB2.out) FL)
  have HFH := Aside0.mk (blk_below (blk_below HF1.out HB2.out) FL)
  have HHH := Aside0.mk ((HH.out.below HB2.out).below FL)
  have HFA := Aside0.mk FA
  have HFB := Aside0.mk FBx
  generalize w2.heap.size = na at HFA HFB ⊢
  clear FA FBx FL HS HH HF1 HB1 HB2 c0 c1 c2 c3
  have HI := Aside0.mk (indent_calls_ ⟨0, [0, 1], 0, []⟩ (.agg #[.int .i64 0, .slice (some ⟨W2.heap.size, 0, none⟩) 2 2, .int .i64 0, .slice none 0 0]) (W2.alloc (.cells #[.int .i64 0, .int .i64 1] 3)) ⟨_, _, rfl, ⟨_, 2, rfl, ints_blk_ (xs := [0, 1]) (heap_alloc_new W2 _) (by decide), Nat.le_refl _⟩, Rd_nil _ _⟩ ⟨by decide, by decide, by decide⟩ ((HG.out.below HB3.out).alloc _))
  rw [show turnR indentF ⟨0, [0, 1], 0, []⟩ = (⟨0, [0, 1, 1], 0, []⟩, 0) by kernel_rfl] at HI
  go_upto_region 4 with (go_at_call 42; refine HI.out.mono ?_; rintro e w3 hbk; obtain ⟨C1, d1, C3, d3, rfl, hw, hb⟩ := hbk.low (w := w); dsimp only at hw; have HW3 := Aside0.mk hw; have HB4 := Aside0.mk (below_step (below_alloc (Below.refl W2.heap.size W2) (.cells #[.int .i64 0, .int .i64 1] 3)) hb); clear hb hw)
  have FC := heap_alloc_new w3 (.cells #[.int .i64 0, .slice C1 3 d1, .int .i64 0, .slice C3 0 d3] 38)
  have FL := below_alloc (Below.refl w3.heap.size w3) (.cells #[.int .i64 0, .slice C1 3 d1, .int .i64 0, .slice C3 0 d3] 38)
  generalize w3.alloc (.cells #[.int .i64 0, .slice C1 3 d1, .int .i64 0, .slice C3 0 d3] 38) = W4 at FC FL ⊢
  have HWC := Aside0.mk (HW3.out.rd.below FL)
  have HFC := Aside0.mk FC
  have HB5 := Aside0.mk (below_step HB4.out FL)
  generalize w3.heap.size = nc at HFC ⊢
  clear FC FL HI
  have HO := Aside0.mk (outdent_calls_ zeroLn (.agg #[.int .i64 0, .slice none 0 0, .int .i64 0, .slice none 0 0]) W4 (WrL_zero W4 0).rd ⟨by decide, by decide, by decide⟩ (HG.out.below (below_step HB3.out HB5.out)))
  rw [show turnR outdentF zeroLn = (⟨0, [], 0, []⟩, 7) by kernel_rfl] at HO
  go_upto_region 5 with (go_at_call 43; refine HO.out.mono ?_; rintro e w4 hbk; obtain ⟨D1, f1, D3, f3, rfl, hw, hb⟩ := hbk.low (w := w); dsimp only at hw; have HB6 := Aside0.mk hb; clear hb hw)
  have FL := below_alloc (Below.refl w4.heap.size w4) (.cells #[.int .i64 0, .slice D1 0 f1, .int .i64 0, .slice D3 0 f3] 38)
  generalize w4.alloc (.cells #[.int .i64 0, .slice D1 0 f1, .int .i64 0, .slice D3 0 f3] 38) = W5 at FL ⊢
  have HB7 := Aside0.mk (below_step HB6.out FL)
  generalize w4.heap.size = nd
  clear FL HO HB6
  have HLS := Aside0.mk (list_calls_ 1 hAwake_ (.agg #[.int .i64 0, .slice none 0 0, .int .i64 2, .slice (some ⟨w.heap.size, 0, none⟩) 2 2]) W5 ((HHH.out.below HB5.out).below HB7.out) HSZ.out (HG.out.below (below_step (below_step HB3.out HB5.out) HB7.out)))
  rw [show listR 1 hAwake_ = (⟨0, [1], 0, [⟨97, 0, ⟨#[]⟩⟩, ⟨98, 0, ⟨#[]⟩⟩]⟩, 0) by kernel_rfl] at HLS
  have FH := blk_below (blk_below HFH.out HB5.out) HB7.out
  have c0 : W5.cell? ⟨w.heap.size + 1, 0, none⟩ = some (.int .i64 0) := (blk_cell FH 0).trans rfl
  have c1 : W5.cell? ⟨w.heap.size + 1, 1, none⟩ = some (.slice none 0 0) := (blk_cell FH 1).trans rfl
  have c2 : W5.cell? ⟨w.heap.size + 1, 2, none⟩ = some (.int .i64 2) := (blk_cell FH 2).trans rfl
  have c3 : W5.cell? ⟨w.heap.size + 1, 3, none⟩ = some (.slice (some ⟨w.heap.size, 0, none⟩) 2 2) := (blk_cell FH 3).trans rfl
  clear FH
  go_upto_region 6 with (go_at_call 46; refine HLS.out.mono ?_; rintro e w5 hbk; obtain ⟨E1, g1, E3, g3, rfl, hw, hb⟩ := hbk.low (w := w); dsimp only at hw; have HB8 := Aside0.mk hb; clear hb hw)
  have FE := heap_alloc_new w5 (.cells #[.int .i64 0, .slice E1 1 g1, .int .i64 0, .slice E3 2 g3] 38)
  have FL := below_alloc (Below.refl w5.heap.size w5) (.cells #[.int .i64 0, .slice E1 1 g1, .int .i64 0, .slice E3 2 g3] 38)
  generalize w5.alloc (.cells #[.int .i64 0, .slice E1 1 g1, .int .i64 0, .slice E3 2 g3] 38) = W6 at FE FL ⊢
  have HB9 := Aside0.mk (below_step HB8.out FL)
  generalize w5.heap.size = ne at FE ⊢
  clear FL HLS c0 c1 c2 c3 HB8
  have GA := blk_below (blk_below (blk_below HFA.out HB5.out) HB7.out) HB9.out
  have GB := blk_below (blk_below (blk_below HFB.out HB5.out) HB7.out) HB9.out
  have GC := blk_below (blk_below HFC.out HB7.out) HB9.out
  have a2 : W6.cell? ⟨na, 2, none⟩ = some (.int .i64 2) := (blk_cell GA 2).trans rfl
  have b2 : W6.cell? ⟨na + 1, 2, none⟩ = some (.int .i64 0) := (blk_cell GB 2).trans rfl
  have b3 : W6.cell? ⟨na + 1, 3, none⟩ = some (.slice B3 0 b3) := (blk_cell GB 3).trans rfl
  have c1 : W6.cell? ⟨nc, 1, none⟩ = some (.slice C1 3 d1) := (blk_cell GC 1).trans rfl
  have e1 : W6.cell? ⟨ne, 1, none⟩ = some (.slice E1 1 g1) := (blk_cell FE 1).trans rfl
  have e2 : W6.cell? ⟨ne, 2, none⟩ = some (.int .i64 0) := (blk_cell FE 2).trans rfl
  obtain ⟨_, _, ev, ⟨A, c, ev1, hC, _⟩, _⟩ := (HWC.out.below HB7.out).below HB9.out
  injection ev with ev
  injection ev with ev
  injection ev with _ ev
  injection ev with ev _
  rw [ev1] at ev
  injection ev with ev _ _
  subst ev
  obtain ⟨ad, ead, hx⟩ := atI_ hC 2 (by decide) (by decide)
  subst ead
  have hx2 : W6.cell? ⟨ad.block, ad.off + 2, none⟩ = some (.int .i64 1) := hx
  have HBZ := Aside0.mk (below_step (below_step (below_step HB3.out HB5.out) HB7.out) HB9.out)
  have HMY := Aside0.mk (may_calls_ ⟨0, [0], 1, []⟩ (.agg #[.int .i64 0, .slice (some ⟨W6.heap.size, 0, none⟩) 1 1, .int .i64 1, .slice none 0 0]) (W6.alloc (.cells #[.int .i64 0] 3)) ⟨_, _, rfl, ⟨_, 1, rfl, ints_blk_ (xs := [0]) (heap_alloc_new W6 _) (by decide), Nat.le_refl _⟩, Rd_nil _ _⟩ ⟨by decide, by decide, by decide⟩ ((HG.out.below HBZ.out).alloc _))
  rw [show mayL ⟨0, [0], 1, []⟩ = false by kernel_rfl] at HMY
  clear hC hx ev1 GA GB GC FE HWC HW3 HHH HFH HFA HFB HFC HB3 HB4 HB5 HB7 HB9
  go_wp2_with (go_at_call 37; refine HMY.out.mono ?_; rintro e w6 ⟨rfl, hb⟩; have HBL := Aside0.mk hb; clear hb)
  go_ret
  exact ⟨rfl, below_step (below_alloc HBZ.out _) HBL.out⟩
end Go.Proofs.YtgdpknmffohhaaaDoor.Pl
