-- By splice.py, a program of this session's, over the kit's print: a text of this seat's own.
import Derived.Test.YthaapadjlknieaaQ0
namespace Go.Proofs.Ythaapadjlknieaa.Q
open Go.RowKit Go.Proofs.YthaapadjlknieaaW.PrintWords Go.Proofs.YthaapadjlknieaaW.PrintLast Go.Proofs.YthaapadjlknieaaW.PrintMore
attribute [local go_sem] max2_int min2_int max_two min_two max_three min_three max_four min_four   -- for this text's walks alone
set_option linter.unusedVariables false
set_option linter.unusedSimpArgs false

theorem am_ {p : Prop} (h : p) : Aside0 p := ⟨h⟩
/-! ### stolelaw0_CopyPipe: function 12 -/
mutual
def stolelaw0_CopyPipe.l0 : Nat → List (S38) → List (S38) → Int → Option ((List (S38)))
  | 0, _, _, _ => none
  | k + 1, x0, x3, x4 => if x4 < (x0.length : Int) then (if 0 ≤ x4 then (stolelaw0_CopyPipe.l1 k x0 x3 x4 0 ((rd_T38 x0 x4).f0) ([] : List (S41))) else (none)) else (some x3)
def stolelaw0_CopyPipe.l1 : Nat → List (S38) → List (S38) → Int → Int → ByteArray → List (S41) → Option ((List (S38)))
  | 0, _, _, _, _, _, _ => none
  | k + 1, x0, x3, x4, x6, x277000, x277001 => if 0 ≤ x4 then (if x4 < (x0.length : Int) then (if x6 < (((rd_T38 x0 x4).f1).length : Int) then (if 0 ≤ x6 then ((some (([] : List ByteArray) : List ByteArray)).bind fun y281 => (if y281.length + ((rd_T41 ((rd_T38 x0 x4).f1) x6).f2).length < 8796093022208 then (if x277001.length < 1954687338268 then (stolelaw0_CopyPipe.l1 k x0 x3 x4 (wrap64 (x6 + 1)) x277000 (x277001 ++ [(⟨(rd_T41 ((rd_T38 x0 x4).f1) x6).f0, (rd_T41 ((rd_T38 x0 x4).f1) x6).f1, (y281 ++ ((rd_T41 ((rd_T38 x0 x4).f1) x6).f2)), (rd_T41 ((rd_T38 x0 x4).f1) x6).f3, (rd_T41 ((rd_T38 x0 x4).f1) x6).f4⟩ : S41)])) else (none)) else (none))) else (none)) else (if x3.length < 3518437208883 then (stolelaw0_CopyPipe.l0 k x0 (x3 ++ [(⟨x277000, x277001⟩ : S38)]) (wrap64 (x4 + 1))) else (none))) else (none)) else (none)
end
def stolelaw0_CopyPipe.f (k : Nat) (l0 : List (S38)) : Option ((List (S38))) := stolelaw0_CopyPipe.l0 k l0 ([] : List (S38)) 0
theorem stolelaw0_CopyPipe.mono_l : ∀ k, (∀ y0 y1 y2, LeO (stolelaw0_CopyPipe.l0 k y0 y1 y2) (stolelaw0_CopyPipe.l0 (k + 1) y0 y1 y2)) ∧ (∀ y0 y1 y2 y3 y4 y5, LeO (stolelaw0_CopyPipe.l1 k y0 y1 y2 y3 y4 y5) (stolelaw0_CopyPipe.l1 (k + 1) y0 y1 y2 y3 y4 y5))
  | 0 => ⟨fun _ _ _ r h => by simp [stolelaw0_CopyPipe.l0] at h, fun _ _ _ _ _ _ r h => by simp [stolelaw0_CopyPipe.l1] at h⟩
  | k + 1 => by
    obtain ⟨ih0, ih1⟩ := stolelaw0_CopyPipe.mono_l k
    refine ⟨?_, ?_⟩
    · intro y0 y1 y2
      unfold stolelaw0_CopyPipe.l0
      repeat' first
      | (with_reducible exact ih0 _ _ _)
      | (with_reducible exact ih1 _ _ _ _ _ _)
      | (with_reducible exact LeO.refl _)
      | (with_reducible exact LeO.none _)
      | (with_reducible refine LeO.ite ?_ ?_)
      | (with_reducible refine LeO.bind ?_ (fun _ => ?_))
      | exact ih0 _ _ _
      | exact ih1 _ _ _ _ _ _
      | exact LeO.none _
      | refine LeO.ite ?_ ?_
      | refine LeO.bind ?_ (fun _ => ?_)
    · intro y0 y1 y2 y3 y4 y5
      unfold stolelaw0_CopyPipe.l1
      repeat' first
      | (with_reducible exact ih0 _ _ _)
      | (with_reducible exact ih1 _ _ _ _ _ _)
      | (with_reducible exact LeO.refl _)
      | (with_reducible exact LeO.none _)
      | (with_reducible refine LeO.ite ?_ ?_)
      | (with_reducible refine LeO.bind ?_ (fun _ => ?_))
      | exact ih0 _ _ _
      | exact ih1 _ _ _ _ _ _
      | exact LeO.none _
      | refine LeO.ite ?_ ?_
      | refine LeO.bind ?_ (fun _ => ?_)
theorem stolelaw0_CopyPipe.mono : ∀ a0 k, LeO (stolelaw0_CopyPipe.f k a0) (stolelaw0_CopyPipe.f (k + 1) a0) := by
  intro a0 k
  obtain ⟨ih0, ih1⟩ := stolelaw0_CopyPipe.mono_l k
  unfold stolelaw0_CopyPipe.f
  repeat' first
      | (with_reducible exact ih0 _ _ _)
      | (with_reducible exact ih1 _ _ _ _ _ _)
      | (with_reducible exact LeO.refl _)
      | (with_reducible exact LeO.none _)
      | (with_reducible refine LeO.ite ?_ ?_)
      | (with_reducible refine LeO.bind ?_ (fun _ => ?_))
      | exact ih0 _ _ _
      | exact ih1 _ _ _ _ _ _
      | exact LeO.none _
      | refine LeO.ite ?_ ?_
      | refine LeO.bind ?_ (fun _ => ?_)
set_option maxHeartbeats 8000000 in
set_option maxRecDepth 100000 in
theorem stolelaw0_CopyPipe.calls (k : Nat) (A0 : Option Addr) (c0 : Nat) (l0 : List (S38)) (r : List (S38)) (w : World) (hr0 : Kd.C k38 w A0 l0.length l0) (hc0 : l0.length ≤ c0) (h : stolelaw0_CopyPipe.f k l0 = some r) :
    Calls Try.prog 12 #[.slice A0 l0.length c0] w fun e w' => ∃ v0_ : Value, e = .returned (v0_) ∧ Kd.R k38 38 w' w.heap.size (fun _ => True) v0_ r ∧ Below w.heap.size w w' := by
  have hu38 := Try.underlying38
  have hu41 := Try.underlying41
  have HR0 := am_ hr0
  have HC0 := am_ hc0
  clear hr0 hc0
  have HB := am_ (Below.refl w.heap.size w)
  have H : (stolelaw0_CopyPipe.l0 k l0 ([] : List (S38)) 0) = some r := h
  clear h
  have H' := am_ H
  clear H
  go_enter Try.func12, Try.ntmps12
  go_wp2
  go_loopg [3, 4] k (fun kq v3 v4 w' => ∃ (x3_1 : List (S38)) (x4_1 : Int), v4 = .int .i64 x4_1 ∧ Aside0 (stolelaw0_CopyPipe.l0 kq l0 x3_1 x4_1 = some r) ∧ Aside0 (kq ≤ k) ∧ Aside0 (Kd.R k38 38 w' w.heap.size (fun _ => True) v3 x3_1) ∧ Aside0 (Below w.heap.size w w'))
  case atStart => exact ⟨(([] : List (S38))), (0), (by first | rfl | (simp; done) | (simp [*]; done)), H', ⟨Nat.le_refl _⟩, ⟨by first | exact Kd.R_nil _ _ _ _ _ | exact Kd.N_nil _ _ _ _ _ | exact Kd.V_nil _ _ _ _ _ | exact Kd.Q_nil _ _ _ _ _ | exact Kd.S_nil _ _ _ _ _⟩, ⟨by repeat (first | (with_reducible first | exact HB.out | apply below_alloc | apply pw_below_drewN | apply below_drew1) | exact HB.out)⟩⟩
  case round =>
    clear H'
    try clear c1
    obtain ⟨x3_1, x4_1, rfl, HA, HK1, HO_3, HB⟩ := hrel
    cases gk with
    | zero => exact absurd HA.out (by simp [stolelaw0_CopyPipe.l0])
    | succ k1 =>
      have H := HA.out
      clear HA
      simp only [stolelaw0_CopyPipe.l0] at H
      by_cases c2 : x4_1 < (l0.length : Int)
      · rw [if_pos c2] at H
        have c2b0 : decide (x4_1 < (l0.length : Int)) = true := decide_eq_true c2
        clear c2
        by_cases c3 : 0 ≤ x4_1
        · rw [if_pos c3] at H
          have c3b0 : decide (0 ≤ x4_1) = true := decide_eq_true c3
          clear c3
          have H' := am_ H
          clear H
          have p275 : 0 ≤ (x4_1 : Int) := of_decide_eq_true (by first | (with_reducible assumption) | assumption)
          have q275 : x4_1 < (l0.length : Int) := of_decide_eq_true (by first | (with_reducible assumption) | assumption)
          obtain ⟨ad275, A275_1, c275_1, e275, hx275_0, hx275_1, hl275_1, hi275_1⟩ := at_T38 HR0.out x4_1 p275 q275
          cases e275
          replace hx275_0 := (HB.out.cell (World.block_lt_of_cell? w _ hx275_0)).trans hx275_0
          replace hx275_1 := (HB.out.cell (World.block_lt_of_cell? w _ hx275_1)).trans hx275_1
          have HR275_1 := am_ hi275_1
          have HC275_1 := am_ hl275_1
          clear hi275_1 hl275_1
          replace p275 := eq_true p275
          replace q275 := eq_true q275
          go_wp2_with (first | ((with_reducible refine gate_dst (N := 5) rfl ?_); refine box_event ?hg (N := 5) ?hd (cs := #[.string ⟨#[]⟩, .slice none 0 0]) (t := 38) ?hr ?_; (case hd | hg => rfl); (case hr => first | (go_simp; done) | (go_simp; rfl)); intro gb276 hg w4 hbox hb; have n0 := am_ (Kd.R_below (Kd.R_elderB (by (with_reducible repeat (first | apply Kd.R_alloc | apply Kd.R_drewN | apply Kd.R_drew)); exact HO_3.out) gb276 (Nat.le_of_eq hg.symm)) hb); have n1 := am_ (below_step (by repeat (first | (with_reducible first | exact HB.out | apply below_alloc | apply pw_below_drewN | apply below_drew1) | exact HB.out)) hb); have n2 := am_ (hbox); have n3 := am_ ((by rw [hg]; exact (below_size (by repeat (first | (with_reducible first | exact HB.out | apply below_alloc | apply pw_below_drewN | apply below_drew1) | exact HB.out))) : w.heap.size ≤ gb276)); have n4 := n3; clear HO_3 HB; have HO_3 := n0; have HB := n1; have BK276 := n2; have GW276 := n3; have GE276 := n4; clear n0 n1 n2 n3 n4 hb hbox hg; have hcz5_0 : w4.cell? ⟨gb276, 0, none⟩ = some (.string ⟨#[]⟩) := (blk_cell BK276.out 0).trans rfl; have hcz5_1 : w4.cell? ⟨gb276, 1, none⟩ = some (.slice none 0 0) := (blk_cell BK276.out 1).trans rfl; have hfz5_0 := blk_frozen BK276.out 0; have hfz5_1 := blk_frozen BK276.out 1))
          go_loopg [6] k1 (fun kq v6 w' => ∃ (x6_2 : Int) (x277001_2 : List (S41)) (u277001 : Value), v6 = .int .i64 x6_2 ∧ Aside0 (stolelaw0_CopyPipe.l1 kq l0 x3_1 x4_1 x6_2 ((rd_T38 l0 x4_1).f0) x277001_2 = some r) ∧ Aside0 (kq ≤ k1) ∧ Aside0 (Kd.R k38 38 w' w.heap.size (fun z => some z ≠ (u277001 : Value).ownBlock ∧ z ≠ gb276) u3 x3_1) ∧ Aside0 (Kd.S k41 41 w' w.heap.size (fun _ => True) u277001 x277001_2) ∧ Aside0 (w'.heap[gb276]? = some (.cells #[.string ((rd_T38 l0 x4_1).f0), u277001] 38 (0, 0))) ∧ Aside0 (Below w.heap.size w w'))
          case atStart => exact ⟨(0), (([] : List (S41))), (.slice none 0 0), (by first | rfl | (simp; done) | (simp [*]; done)), H', ⟨Nat.le_refl _⟩, ⟨by (with_reducible repeat (first | apply Kd.R_alloc | apply Kd.R_drewN | apply Kd.R_drew)); exact Kd.R_mono (Kd.R_far (p := ⟨gb276, 1, none⟩) (Kd.R_far (p := ⟨gb276, 0, none⟩) (Kd.R_mono HO_3.out (fun z hk => (⟨hk, hk.2⟩ : _ ∧ z ≠ gb276))) (fun _ hk => hk.2) (.string ((rd_T38 l0 x4_1).f0))) (fun _ hk => hk.2) (.slice none 0 0)) (fun _ hk => ⟨(by simp [Value.ownBlock]), hk.1.2⟩)⟩, ⟨by first | exact Kd.S_nil _ _ _ _ _ | exact Kd.N_nil _ _ _ _ _ | exact Kd.V_nil _ _ _ _ _ | exact Kd.Q_nil _ _ _ _ _ | exact Kd.R_nil _ _ _ _ _⟩, ⟨by (with_reducible repeat (first | apply blk_drewN | apply blk_drew | apply blk_alloc)); refine blk_put (cs := #[.string ((rd_T38 l0 x4_1).f0), .slice none 0 0]) ?_ 1 _ rfl; (with_reducible repeat (first | apply blk_drewN | apply blk_drew | apply blk_alloc)); refine blk_put (cs := #[.string ⟨#[]⟩, .slice none 0 0]) ?_ 0 _ rfl; (with_reducible repeat (first | apply blk_drewN | apply blk_drew | apply blk_alloc)); exact BK276.out⟩, ⟨by repeat (first | (with_reducible first | exact HB.out | apply below_alloc | apply pw_below_drewN | apply below_drew1 | refine below_set ?_ GE276.out) | exact HB.out)⟩⟩
          case round =>
            clear H'
            try clear c1
            try clear c2
            try clear c2b0
            try clear p2
            try clear q2
            try clear hx2
            try clear c3
            try clear c3b0
            try clear hcz5_0
            try clear hcz5_1
            try clear hfz5_0
            try clear hfz5_1
            try clear hx275_0
            try clear hx275_1
            try clear p275
            try clear q275
            obtain ⟨x6_2, x277001_2, u277001, rfl, HA, HK2, HO_3, HO_277001, BK276, HB⟩ := hrel
            cases gk with
            | zero => exact absurd HA.out (by simp [stolelaw0_CopyPipe.l1])
            | succ k2 =>
              have H := HA.out
              clear HA
              simp only [stolelaw0_CopyPipe.l1] at H
              by_cases c6 : 0 ≤ x4_1
              · rw [if_pos c6] at H
                have c6b0 : decide (0 ≤ x4_1) = true := decide_eq_true c6
                clear c6
                by_cases c7 : x4_1 < (l0.length : Int)
                · rw [if_pos c7] at H
                  have c7b0 : decide (x4_1 < (l0.length : Int)) = true := decide_eq_true c7
                  clear c7
                  by_cases c8 : x6_2 < (((rd_T38 l0 x4_1).f1).length : Int)
                  · rw [if_pos c8] at H
                    have c8b0 : decide (x6_2 < (((rd_T38 l0 x4_1).f1).length : Int)) = true := decide_eq_true c8
                    clear c8
                    by_cases c9 : 0 ≤ x6_2
                    · rw [if_pos c9] at H
                      have c9b0 : decide (0 ≤ x6_2) = true := decide_eq_true c9
                      clear c9
                      obtain ⟨y281, hy281⟩ : ∃ y_ : List ByteArray, y_ = (([] : List ByteArray)) := ⟨_, rfl⟩
                      replace H : (if y281.length + ((rd_T41 ((rd_T38 l0 x4_1).f1) x6_2).f2).length < 8796093022208 then (if x277001_2.length < 1954687338268 then (stolelaw0_CopyPipe.l1 k2 l0 x3_1 x4_1 (wrap64 (x6_2 + 1)) ((rd_T38 l0 x4_1).f0) (x277001_2 ++ [(⟨(rd_T41 ((rd_T38 l0 x4_1).f1) x6_2).f0, (rd_T41 ((rd_T38 l0 x4_1).f1) x6_2).f1, (y281 ++ ((rd_T41 ((rd_T38 l0 x4_1).f1) x6_2).f2)), (rd_T41 ((rd_T38 l0 x4_1).f1) x6_2).f3, (rd_T41 ((rd_T38 l0 x4_1).f1) x6_2).f4⟩ : S41)])) else (none)) else (none)) = some r := by first | (rw [hy281]; with_reducible exact H) | (have H2_ := (Option.bind_some _ _).symm.trans H; rw [hy281]; with_reducible exact H2_) | (have H2_ := (Option.bind_some _ _).symm.trans H; with_reducible exact H2_) | with_reducible exact H | (rw [hy281]; exact H) | exact H
                      have Ny281 := am_ hy281
                      clear hy281
                      by_cases c10 : y281.length + ((rd_T41 ((rd_T38 l0 x4_1).f1) x6_2).f2).length < 8796093022208
                      · rw [if_pos c10] at H
                        have LMc10 := am_ c10
                        clear c10
                        obtain ⟨y284, hy284⟩ : ∃ y_ : List ByteArray, y_ = (y281 ++ ((rd_T41 ((rd_T38 l0 x4_1).f1) x6_2).f2)) := ⟨_, rfl⟩
                        replace H : (if x277001_2.length < 1954687338268 then (stolelaw0_CopyPipe.l1 k2 l0 x3_1 x4_1 (wrap64 (x6_2 + 1)) ((rd_T38 l0 x4_1).f0) (x277001_2 ++ [(⟨(rd_T41 ((rd_T38 l0 x4_1).f1) x6_2).f0, (rd_T41 ((rd_T38 l0 x4_1).f1) x6_2).f1, y284, (rd_T41 ((rd_T38 l0 x4_1).f1) x6_2).f3, (rd_T41 ((rd_T38 l0 x4_1).f1) x6_2).f4⟩ : S41)])) else (none)) = some r := by first | (rw [hy284]; with_reducible exact H) | (have H2_ := (Option.bind_some _ _).symm.trans H; rw [hy284]; with_reducible exact H2_) | (have H2_ := (Option.bind_some _ _).symm.trans H; with_reducible exact H2_) | with_reducible exact H | (rw [hy284]; exact H) | exact H
                        have Ny284 := am_ hy284
                        clear hy284
                        by_cases c11 : x277001_2.length < 1954687338268
                        · rw [if_pos c11] at H
                          have LMc11 := am_ c11
                          clear c11
                          obtain ⟨y287, hy287⟩ : ∃ y_ : List (S41), y_ = (x277001_2 ++ [(⟨(rd_T41 ((rd_T38 l0 x4_1).f1) x6_2).f0, (rd_T41 ((rd_T38 l0 x4_1).f1) x6_2).f1, y284, (rd_T41 ((rd_T38 l0 x4_1).f1) x6_2).f3, (rd_T41 ((rd_T38 l0 x4_1).f1) x6_2).f4⟩ : S41)]) := ⟨_, rfl⟩
                          replace H : (stolelaw0_CopyPipe.l1 k2 l0 x3_1 x4_1 (wrap64 (x6_2 + 1)) ((rd_T38 l0 x4_1).f0) y287) = some r := by first | (rw [hy287]; with_reducible exact H) | (have H2_ := (Option.bind_some _ _).symm.trans H; rw [hy287]; with_reducible exact H2_) | (have H2_ := (Option.bind_some _ _).symm.trans H; with_reducible exact H2_) | with_reducible exact H | (rw [hy287]; exact H) | exact H
                          have Ny287 := am_ hy287
                          clear hy287
                          have H' := am_ H
                          clear H
                          have p277 : 0 ≤ (x4_1 : Int) := of_decide_eq_true (by first | (with_reducible assumption) | assumption)
                          have q277 : x4_1 < (l0.length : Int) := of_decide_eq_true (by first | (with_reducible assumption) | assumption)
                          obtain ⟨ad277, A277_1, c277_1, e277, hx277_0, hx277_1, hl277_1, hi277_1⟩ := at_T38 HR0.out x4_1 p277 q277
                          obtain rfl : ad275 = ad277 := (by injection e277)
                          replace hx277_0 := (HB.out.cell (World.block_lt_of_cell? w _ hx277_0)).trans hx277_0
                          replace hx277_1 := (HB.out.cell (World.block_lt_of_cell? w _ hx277_1)).trans hx277_1
                          have HR277_1 := am_ hi277_1
                          have HC277_1 := am_ hl277_1
                          clear hi277_1 hl277_1
                          replace p277 := eq_true p277
                          replace q277 := eq_true q277
                          have p278 : 0 ≤ (x4_1 : Int) := of_decide_eq_true (by first | (with_reducible assumption) | assumption)
                          have q278 : x4_1 < (l0.length : Int) := of_decide_eq_true (by first | (with_reducible assumption) | assumption)
                          obtain ⟨ad278, A278_1, c278_1, e278, hx278_0, hx278_1, hl278_1, hi278_1⟩ := at_T38 HR0.out x4_1 p278 q278
                          obtain rfl : ad275 = ad278 := (by injection e278)
                          replace hx278_0 := (HB.out.cell (World.block_lt_of_cell? w _ hx278_0)).trans hx278_0
                          replace hx278_1 := (HB.out.cell (World.block_lt_of_cell? w _ hx278_1)).trans hx278_1
                          have HR278_1 := am_ hi278_1
                          have HC278_1 := am_ hl278_1
                          clear hi278_1 hl278_1
                          replace p278 := eq_true p278
                          replace q278 := eq_true q278
                          have ea_ := Option.some.inj (hx277_1.symm.trans hx278_1)
                          injection ea_ with ea_ en_ ec_
                          subst ea_
                          subst ec_
                          clear en_
                          have p279 : 0 ≤ (x6_2 : Int) := of_decide_eq_true (by first | (with_reducible assumption) | assumption)
                          have q279 : x6_2 < (((rd_T38 l0 x4_1).f1).length : Int) := of_decide_eq_true (by first | (with_reducible assumption) | assumption)
                          obtain ⟨ad279, A279_2, c279_2, e279, hx279_0, hx279_1, hx279_2, hx279_3, hx279_4, hl279_2, hi279_2⟩ := at_T41 HR278_1.out x6_2 p279 q279
                          cases e279
                          replace hx279_0 := (HB.out.cell (World.block_lt_of_cell? w _ hx279_0)).trans hx279_0
                          replace hx279_1 := (HB.out.cell (World.block_lt_of_cell? w _ hx279_1)).trans hx279_1
                          replace hx279_2 := (HB.out.cell (World.block_lt_of_cell? w _ hx279_2)).trans hx279_2
                          replace hx279_3 := (HB.out.cell (World.block_lt_of_cell? w _ hx279_3)).trans hx279_3
                          replace hx279_4 := (HB.out.cell (World.block_lt_of_cell? w _ hx279_4)).trans hx279_4
                          have HR279_2 := am_ hi279_2
                          have HC279_2 := am_ hl279_2
                          clear hi279_2 hl279_2
                          replace p279 := eq_true p279
                          replace q279 := eq_true q279
                          go_wp2_with (first | ((with_reducible refine gate_dst (N := 7) rfl ?_); refine box_event ?hg (N := 7) ?hd (cs := #[.int .i64 0, .string ⟨#[]⟩, .slice none 0 0, .int .i64 0, .string ⟨#[]⟩]) (t := 41) ?hr ?_; (case hd | hg => rfl); (case hr => first | (go_simp; done) | (go_simp; rfl)); intro gb280 hg w12 hbox hb; have n0 := am_ (Kd.R_below (Kd.R_elderB (by (with_reducible repeat (first | apply Kd.R_alloc | apply Kd.R_drewN | apply Kd.R_drew)); exact HO_3.out) gb280 (Nat.le_of_eq hg.symm)) hb); have n1 := am_ (Kd.S_below (Kd.S_elderB (by (with_reducible repeat (first | apply Kd.S_alloc | apply Kd.S_drewN | apply Kd.S_drew)); exact HO_277001.out) gb280 (Nat.le_of_eq hg.symm)) hb); have n2 := am_ (blk_below (g := gb276) (o := .cells #[.string ((rd_T38 l0 x4_1).f0), u277001] 38 (0, 0)) (by (with_reducible repeat (first | apply blk_drewN | apply blk_drew | apply blk_alloc)); exact BK276.out) hb); have n3 := am_ (below_step (by repeat (first | (with_reducible first | exact HB.out | apply below_alloc | apply pw_below_drewN | apply below_drew1 | refine below_set ?_ GE276.out) | exact HB.out)) hb); have n4 := am_ (hbox); have n5 := am_ ((by rw [hg]; exact (below_size (by repeat (first | (with_reducible first | exact HB.out | apply below_alloc | apply pw_below_drewN | apply below_drew1 | refine below_set ?_ GE276.out) | exact HB.out))) : w.heap.size ≤ gb280)); have n6 := n5; have n7 := am_ ((by rw [hg]; exact Nat.ne_of_lt (blk_lt (g := gb276) (o := .cells #[.string ((rd_T38 l0 x4_1).f0), u277001] 38 (0, 0)) (by (with_reducible repeat (first | apply blk_drewN | apply blk_drew | apply blk_alloc)); exact BK276.out)) : gb276 ≠ gb280)); have n8 := am_ ((by rw [hg]; exact Nat.ne_of_gt (blk_lt (g := gb276) (o := .cells #[.string ((rd_T38 l0 x4_1).f0), u277001] 38 (0, 0)) (by (with_reducible repeat (first | apply blk_drewN | apply blk_drew | apply blk_alloc)); exact BK276.out)) : gb280 ≠ gb276)); clear HO_3 HO_277001 BK276 HB; have HO_3 := n0; have HO_277001 := n1; have BK276 := n2; have HB := n3; have BK280 := n4; have GW280 := n5; have GE280 := n6; have NB276_280 := n7; have NB280_276 := n8; clear n0 n1 n2 n3 n4 n5 n6 n7 n8 hb hbox hg; have hnb13 := NB280_276.out; have hnc13 := NB276_280.out; have hcz14_0 : w12.cell? ⟨gb280, 0, none⟩ = some (.int .i64 0) := (blk_cell BK280.out 0).trans rfl; have hcz14_1 : w12.cell? ⟨gb280, 1, none⟩ = some (.string ⟨#[]⟩) := (blk_cell BK280.out 1).trans rfl; have hcz14_2 : w12.cell? ⟨gb280, 2, none⟩ = some (.slice none 0 0) := (blk_cell BK280.out 2).trans rfl; have hcz14_3 : w12.cell? ⟨gb280, 3, none⟩ = some (.int .i64 0) := (blk_cell BK280.out 3).trans rfl; have hcz14_4 : w12.cell? ⟨gb280, 4, none⟩ = some (.string ⟨#[]⟩) := (blk_cell BK280.out 4).trans rfl; have hfz14_0 := blk_frozen BK280.out 0; have hfz14_1 := blk_frozen BK280.out 1; have hfz14_2 := blk_frozen BK280.out 2; have hfz14_3 := blk_frozen BK280.out 3; have hfz14_4 := blk_frozen BK280.out 4) | ((with_reducible refine gate_dst (N := 38) rfl ?_); refine Kd.R_lit Kd.string _ 9 ?hg (N := 38) ?hd (xs := ([] : List ByteArray)) (inner := []) (ok := fun _ => True) (okp := fun _ => True) ?hr ?hp (fun _ hk => hk) trivial (Below.refl _ _) (Nat.le_refl _) (by simp) ?_; (case hd | hg => rfl); (case hr => first | (go_simp; done) | (go_simp; rfl)); (case hp => exact (Reps.none _ _)); intro v282 w15 ho16 hb hg_ hnew_; clear hg_ hnew_; (first | rw [← Ny281.out] at ho16 | (simp only [Int.reduceToNat] at ho16; rw [← Ny281.out] at ho16)); have n0 := am_ (Kd.R_elder' (by (with_reducible repeat (first | apply Kd.R_alloc | apply Kd.R_drewN | apply Kd.R_drew)); exact (Kd.R_mono (Kd.R_far (p := ⟨gb280, 4, none⟩) (Kd.R_far (p := ⟨gb280, 3, none⟩) (Kd.R_far (p := ⟨gb280, 2, none⟩) (Kd.R_far (p := ⟨gb280, 1, none⟩) (Kd.R_far (p := ⟨gb280, 0, none⟩) (Kd.R_mono HO_3.out (fun z hk => (⟨hk, hk.2⟩ : _ ∧ z ≠ gb280))) (fun _ hk => hk.2) (.int .i64 ((rd_T41 ((rd_T38 l0 x4_1).f1) x6_2).f0))) (fun _ hk => hk.2) (.string ((rd_T41 ((rd_T38 l0 x4_1).f1) x6_2).f1))) (fun _ hk => hk.2) (.slice A279_2 ((rd_T41 ((rd_T38 l0 x4_1).f1) x6_2).f2).length c279_2)) (fun _ hk => hk.2) (.int .i64 ((rd_T41 ((rd_T38 l0 x4_1).f1) x6_2).f3))) (fun _ hk => hk.2) (.string ((rd_T41 ((rd_T38 l0 x4_1).f1) x6_2).f4))) (fun _ h_ => h_.1))) (Kd.R_base ho16) hb); have n1 := am_ (Kd.S_elder' (by (with_reducible repeat (first | apply Kd.S_alloc | apply Kd.S_drewN | apply Kd.S_drew)); exact (Kd.S_mono (Kd.S_far (p := ⟨gb280, 4, none⟩) (Kd.S_far (p := ⟨gb280, 3, none⟩) (Kd.S_far (p := ⟨gb280, 2, none⟩) (Kd.S_far (p := ⟨gb280, 1, none⟩) (Kd.S_far (p := ⟨gb280, 0, none⟩) (Kd.S_mono HO_277001.out (fun z hk => (⟨hk, hk.2⟩ : _ ∧ z ≠ gb280))) (fun _ hk => hk.2) (.int .i64 ((rd_T41 ((rd_T38 l0 x4_1).f1) x6_2).f0))) (fun _ hk => hk.2) (.string ((rd_T41 ((rd_T38 l0 x4_1).f1) x6_2).f1))) (fun _ hk => hk.2) (.slice A279_2 ((rd_T41 ((rd_T38 l0 x4_1).f1) x6_2).f2).length c279_2)) (fun _ hk => hk.2) (.int .i64 ((rd_T41 ((rd_T38 l0 x4_1).f1) x6_2).f3))) (fun _ hk => hk.2) (.string ((rd_T41 ((rd_T38 l0 x4_1).f1) x6_2).f4))) (fun _ h_ => h_.1))) (Kd.R_base ho16) hb); have n2 := am_ (Kd.R_lower ho16 (below_size (by repeat (first | (with_reducible first | exact HB.out | apply below_alloc | apply pw_below_drewN | apply below_drew1 | refine below_set ?_ GE276.out | refine below_set ?_ GE280.out) | exact HB.out)))); have n3 := am_ (blk_below (g := gb276) (o := .cells #[.string ((rd_T38 l0 x4_1).f0), u277001] 38 (0, 0)) (by (with_reducible repeat (first | apply blk_drewN | apply blk_drew | apply blk_alloc)); refine blk_far ?_ NB276_280.out _; (with_reducible repeat (first | apply blk_drewN | apply blk_drew | apply blk_alloc)); refine blk_far ?_ NB276_280.out _; (with_reducible repeat (first | apply blk_drewN | apply blk_drew | apply blk_alloc)); refine blk_far ?_ NB276_280.out _; (with_reducible repeat (first | apply blk_drewN | apply blk_drew | apply blk_alloc)); refine blk_far ?_ NB276_280.out _; (with_reducible repeat (first | apply blk_drewN | apply blk_drew | apply blk_alloc)); refine blk_far ?_ NB276_280.out _; (with_reducible repeat (first | apply blk_drewN | apply blk_drew | apply blk_alloc)); exact BK276.out) hb); have n4 := am_ (blk_below (g := gb280) (o := .cells #[.int .i64 ((rd_T41 ((rd_T38 l0 x4_1).f1) x6_2).f0), .string ((rd_T41 ((rd_T38 l0 x4_1).f1) x6_2).f1), .slice A279_2 ((rd_T41 ((rd_T38 l0 x4_1).f1) x6_2).f2).length c279_2, .int .i64 ((rd_T41 ((rd_T38 l0 x4_1).f1) x6_2).f3), .string ((rd_T41 ((rd_T38 l0 x4_1).f1) x6_2).f4)] 41 (0, 0)) (by (with_reducible repeat (first | apply blk_drewN | apply blk_drew | apply blk_alloc)); refine blk_put (cs := #[.int .i64 ((rd_T41 ((rd_T38 l0 x4_1).f1) x6_2).f0), .string ((rd_T41 ((rd_T38 l0 x4_1).f1) x6_2).f1), .slice A279_2 ((rd_T41 ((rd_T38 l0 x4_1).f1) x6_2).f2).length c279_2, .int .i64 ((rd_T41 ((rd_T38 l0 x4_1).f1) x6_2).f3), .string ⟨#[]⟩]) ?_ 4 _ rfl; (with_reducible repeat (first | apply blk_drewN | apply blk_drew | apply blk_alloc)); refine blk_put (cs := #[.int .i64 ((rd_T41 ((rd_T38 l0 x4_1).f1) x6_2).f0), .string ((rd_T41 ((rd_T38 l0 x4_1).f1) x6_2).f1), .slice A279_2 ((rd_T41 ((rd_T38 l0 x4_1).f1) x6_2).f2).length c279_2, .int .i64 0, .string ⟨#[]⟩]) ?_ 3 _ rfl; (with_reducible repeat (first | apply blk_drewN | apply blk_drew | apply blk_alloc)); refine blk_put (cs := #[.int .i64 ((rd_T41 ((rd_T38 l0 x4_1).f1) x6_2).f0), .string ((rd_T41 ((rd_T38 l0 x4_1).f1) x6_2).f1), .slice none 0 0, .int .i64 0, .string ⟨#[]⟩]) ?_ 2 _ rfl; (with_reducible repeat (first | apply blk_drewN | apply blk_drew | apply blk_alloc)); refine blk_put (cs := #[.int .i64 ((rd_T41 ((rd_T38 l0 x4_1).f1) x6_2).f0), .string ⟨#[]⟩, .slice none 0 0, .int .i64 0, .string ⟨#[]⟩]) ?_ 1 _ rfl; (with_reducible repeat (first | apply blk_drewN | apply blk_drew | apply blk_alloc)); refine blk_put (cs := #[.int .i64 0, .string ⟨#[]⟩, .slice none 0 0, .int .i64 0, .string ⟨#[]⟩]) ?_ 0 _ rfl; (with_reducible repeat (first | apply blk_drewN | apply blk_drew | apply blk_alloc)); exact BK280.out) hb); have n5 := am_ (below_step (by repeat (first | (with_reducible first | exact HB.out | apply below_alloc | apply pw_below_drewN | apply below_drew1 | refine below_set ?_ GE276.out | refine below_set ?_ GE280.out) | exact HB.out)) hb); clear HO_3 HO_277001 BK276 BK280 HB; have HO_3 := n0; have HO_277001 := n1; have HO283 := n2; have BK276 := n3; have BK280 := n4; have HB := n5; clear n0 n1 n2 n3 n4 n5 hb ho16; have hcz17_0 : w15.cell? ⟨gb280, 0, none⟩ = some (.int .i64 ((rd_T41 ((rd_T38 l0 x4_1).f1) x6_2).f0)) := (blk_cell BK280.out 0).trans rfl; have hcz17_1 : w15.cell? ⟨gb280, 1, none⟩ = some (.string ((rd_T41 ((rd_T38 l0 x4_1).f1) x6_2).f1)) := (blk_cell BK280.out 1).trans rfl; have hcz17_2 : w15.cell? ⟨gb280, 2, none⟩ = some (.slice A279_2 ((rd_T41 ((rd_T38 l0 x4_1).f1) x6_2).f2).length c279_2) := (blk_cell BK280.out 2).trans rfl; have hcz17_3 : w15.cell? ⟨gb280, 3, none⟩ = some (.int .i64 ((rd_T41 ((rd_T38 l0 x4_1).f1) x6_2).f3)) := (blk_cell BK280.out 3).trans rfl; have hcz17_4 : w15.cell? ⟨gb280, 4, none⟩ = some (.string ((rd_T41 ((rd_T38 l0 x4_1).f1) x6_2).f4)) := (blk_cell BK280.out 4).trans rfl; have hfz17_0 := blk_frozen BK280.out 0; have hfz17_1 := blk_frozen BK280.out 1; have hfz17_2 := blk_frozen BK280.out 2; have hfz17_3 := blk_frozen BK280.out 3; have hfz17_4 := blk_frozen BK280.out 4) | ((with_reducible refine gate_builtin (b := .append) (xs := #[.tmp 38, .tmp 40]) rfl ?_); at_builtin; refine Kd.R_append_rows Kd.string (w0 := w) w.heap.size rfl (.tmp 38) (.tmp 40) 39 9 (.string ⟨#[]⟩) 16 rfl Try.underlying39 info9 rfl (by decide) (by omega) v282 y281 ((rd_T41 ((rd_T38 l0 x4_1).f1) x6_2).f2) _ _ _ (fun _ => True) (fun _ => False) rfl rfl ?aO ?aR (fun _ _ h => h) (fun _ h => h.elim) ?aF ?aB ?aS ?aL ?_; (case aR => repeat (first | exact (Kd.C_below HR279_2.out HB.out) | (with_reducible refine Kd.C_alloc ?_ _) | (with_reducible refine Kd.C_drewN ?_ _) | (with_reducible refine Kd.C_drew ?_))); (case aB => exact (by repeat (first | (with_reducible first | exact HB.out | apply below_alloc | apply pw_below_drewN | apply below_drew1 | refine below_set ?_ GE276.out | refine below_set ?_ GE280.out) | exact HB.out))); (case aF => exact (fun _ _ => trivial)); (case aO => exact (by (with_reducible repeat (first | apply Kd.R_alloc | apply Kd.R_drewN | apply Kd.R_drew)); exact HO283.out)); (case aS => exact (below_size (by repeat (first | (with_reducible first | exact HB.out | apply below_alloc | apply pw_below_drewN | apply below_drew1 | refine below_set ?_ GE276.out | refine below_set ?_ GE280.out) | exact HB.out)))); (case aL => have := LMc10.out; omega); intro v285 w18 ho hb hg hat; rw [← Ny284.out] at ho; have n0 := am_ (Kd.R_after (ok := (fun z => some z ≠ (u277001 : Value).ownBlock ∧ z ≠ gb276 ∧ z ≠ gb280)) (by (with_reducible repeat (first | apply Kd.R_alloc | apply Kd.R_drewN | apply Kd.R_drew)); exact Kd.R_mono HO_3.out (fun _ hk => ⟨⟨hk.1.1.1, ⟨hk.1.1.2, hk.1.2⟩⟩, hk.2⟩)) hg hat); have n1 := am_ (Kd.S_after (ok := (fun z => z ≠ gb280)) (by (with_reducible repeat (first | apply Kd.S_alloc | apply Kd.S_drewN | apply Kd.S_drew)); exact Kd.S_mono HO_277001.out (fun _ hk => ⟨hk.1.2, hk.2⟩)) hg hat); have n2 := am_ (blk_grown (g := gb276) (o := .cells #[.string ((rd_T38 l0 x4_1).f0), u277001] 38 (0, 0)) (by (with_reducible repeat (first | apply blk_drewN | apply blk_drew | apply blk_alloc)); exact BK276.out) hg (Kd.R_ne HO283.out BK276.out (by decide))); have n3 := am_ (blk_grown (g := gb280) (o := .cells #[.int .i64 ((rd_T41 ((rd_T38 l0 x4_1).f1) x6_2).f0), .string ((rd_T41 ((rd_T38 l0 x4_1).f1) x6_2).f1), .slice A279_2 ((rd_T41 ((rd_T38 l0 x4_1).f1) x6_2).f2).length c279_2, .int .i64 ((rd_T41 ((rd_T38 l0 x4_1).f1) x6_2).f3), .string ((rd_T41 ((rd_T38 l0 x4_1).f1) x6_2).f4)] 41 (0, 0)) (by (with_reducible repeat (first | apply blk_drewN | apply blk_drew | apply blk_alloc)); exact BK280.out) hg (Kd.R_ne HO283.out BK280.out (by decide))); have n4 := am_ (hb); have n5 := am_ (ho); clear HO_3 HO_277001 BK276 BK280 HB HO283; have HO_3 := n0; have HO_277001 := n1; have BK276 := n2; have BK280 := n3; have HB := n4; have HO286 := n5; clear n0 n1 n2 n3 n4 n5 ho hb hg hat; obtain ⟨Ao19, co19, eo19⟩ := Kd.R_slice HO286.out; subst eo19; have hcz20_0 : w18.cell? ⟨gb280, 0, none⟩ = some (.int .i64 ((rd_T41 ((rd_T38 l0 x4_1).f1) x6_2).f0)) := (blk_cell BK280.out 0).trans rfl; have hcz20_1 : w18.cell? ⟨gb280, 1, none⟩ = some (.string ((rd_T41 ((rd_T38 l0 x4_1).f1) x6_2).f1)) := (blk_cell BK280.out 1).trans rfl; have hcz20_2 : w18.cell? ⟨gb280, 2, none⟩ = some (.slice A279_2 ((rd_T41 ((rd_T38 l0 x4_1).f1) x6_2).f2).length c279_2) := (blk_cell BK280.out 2).trans rfl; have hcz20_3 : w18.cell? ⟨gb280, 3, none⟩ = some (.int .i64 ((rd_T41 ((rd_T38 l0 x4_1).f1) x6_2).f3)) := (blk_cell BK280.out 3).trans rfl; have hcz20_4 : w18.cell? ⟨gb280, 4, none⟩ = some (.string ((rd_T41 ((rd_T38 l0 x4_1).f1) x6_2).f4)) := (blk_cell BK280.out 4).trans rfl; have hfz20_0 := blk_frozen BK280.out 0; have hfz20_1 := blk_frozen BK280.out 1; have hfz20_2 := blk_frozen BK280.out 2; have hfz20_3 := blk_frozen BK280.out 3; have hfz20_4 := blk_frozen BK280.out 4) | ((with_reducible refine gate_store (t := 39) (p := 42) rfl ?_); refine store_event (t := 39) (p := 42) (v := ?vo_w21) (w1 := (w18.setCell ⟨gb280, 2, none⟩ (.slice Ao19 y284.length co19))) ?hg ?ho ?hn ?hr ?_; (case ho => rfl); (case hg => rfl); (case hn => rfl); (case hr => first | (go_simp; done) | (go_simp; rfl)); intro w21 hw; have n0 : Aside0 (Kd.R k38 38 w21 w.heap.size (fun z => some z ≠ (u277001 : Value).ownBlock ∧ some z ≠ (.slice Ao19 y284.length co19 : Value).ownBlock ∧ z ≠ gb276 ∧ z ≠ gb280) u3 x3_1) := ⟨(by rw [hw]; exact (by (with_reducible repeat (first | apply Kd.R_alloc | apply Kd.R_drewN | apply Kd.R_drew)); exact Kd.R_mono (Kd.R_far (p := ⟨gb280, 2, none⟩) (Kd.R_mono HO_3.out (fun z hk => (⟨hk, hk.1.2.2⟩ : _ ∧ z ≠ gb280))) (fun _ hk => hk.2) (.slice Ao19 y284.length co19)) (fun _ hk => ⟨hk.1.1.1, ⟨hk.1.2, ⟨hk.1.1.2.1, hk.1.1.2.2⟩⟩⟩)))⟩; have n1 : Aside0 (Kd.S k41 41 w21 w.heap.size (fun z => some z ≠ (.slice Ao19 y284.length co19 : Value).ownBlock ∧ z ≠ gb280) u277001 x277001_2) := ⟨(by rw [hw]; exact (by (with_reducible repeat (first | apply Kd.S_alloc | apply Kd.S_drewN | apply Kd.S_drew)); exact Kd.S_mono (Kd.S_far (p := ⟨gb280, 2, none⟩) (Kd.S_mono HO_277001.out (fun z hk => (⟨hk, hk.1⟩ : _ ∧ z ≠ gb280))) (fun _ hk => hk.2) (.slice Ao19 y284.length co19)) (fun _ hk => ⟨hk.1.2, hk.1.1⟩)))⟩; have n2 : Aside0 (Kd.R Kd.string 9 w21 w.heap.size (fun _ => True) (.slice Ao19 y284.length co19) y284) := ⟨(by rw [hw]; exact (by (with_reducible repeat (first | apply Kd.R_alloc | apply Kd.R_drewN | apply Kd.R_drew)); exact Kd.R_mono (Kd.R_far (p := ⟨gb280, 2, none⟩) (Kd.R_types HO286.out BK280.out (by decide)) (fun _ hk => hk.2) (.slice Ao19 y284.length co19)) (fun _ hk => trivial)))⟩; have n3 : Aside0 (w21.heap[gb276]? = some (.cells #[.string ((rd_T38 l0 x4_1).f0), u277001] 38 (0, 0))) := ⟨(by rw [hw]; exact (by (with_reducible repeat (first | apply blk_drewN | apply blk_drew | apply blk_alloc)); refine blk_far ?_ NB276_280.out _; (with_reducible repeat (first | apply blk_drewN | apply blk_drew | apply blk_alloc)); exact BK276.out))⟩; have n4 : Aside0 (w21.heap[gb280]? = some (.cells #[.int .i64 ((rd_T41 ((rd_T38 l0 x4_1).f1) x6_2).f0), .string ((rd_T41 ((rd_T38 l0 x4_1).f1) x6_2).f1), .slice Ao19 y284.length co19, .int .i64 ((rd_T41 ((rd_T38 l0 x4_1).f1) x6_2).f3), .string ((rd_T41 ((rd_T38 l0 x4_1).f1) x6_2).f4)] 41 (0, 0))) := ⟨(by rw [hw]; exact (by (with_reducible repeat (first | apply blk_drewN | apply blk_drew | apply blk_alloc)); refine blk_put (cs := #[.int .i64 ((rd_T41 ((rd_T38 l0 x4_1).f1) x6_2).f0), .string ((rd_T41 ((rd_T38 l0 x4_1).f1) x6_2).f1), .slice A279_2 ((rd_T41 ((rd_T38 l0 x4_1).f1) x6_2).f2).length c279_2, .int .i64 ((rd_T41 ((rd_T38 l0 x4_1).f1) x6_2).f3), .string ((rd_T41 ((rd_T38 l0 x4_1).f1) x6_2).f4)]) ?_ 2 _ rfl; (with_reducible repeat (first | apply blk_drewN | apply blk_drew | apply blk_alloc)); exact BK280.out))⟩; have n5 : Aside0 (Below w.heap.size w w21) := ⟨(by rw [hw]; exact (by repeat (first | (with_reducible first | exact HB.out | apply below_alloc | apply pw_below_drewN | apply below_drew1 | refine below_set ?_ GE276.out | refine below_set ?_ GE280.out) | exact HB.out)))⟩; clear hw HO_3 HO_277001 HO286 BK276 BK280 HB; have HO_3 := n0; have HO_277001 := n1; have HO286 := n2; have BK276 := n3; have BK280 := n4; have HB := n5; clear n0 n1 n2 n3 n4 n5; have hcz22_0 : w21.cell? ⟨gb276, 0, none⟩ = some (.string ((rd_T38 l0 x4_1).f0)) := (blk_cell BK276.out 0).trans rfl; have hcz22_1 : w21.cell? ⟨gb276, 1, none⟩ = some (u277001) := (blk_cell BK276.out 1).trans rfl; have hfz22_0 := blk_frozen BK276.out 0; have hfz22_1 := blk_frozen BK276.out 1; have hcz23_0 : w21.cell? ⟨gb280, 0, none⟩ = some (.int .i64 ((rd_T41 ((rd_T38 l0 x4_1).f1) x6_2).f0)) := (blk_cell BK280.out 0).trans rfl; have hcz23_1 : w21.cell? ⟨gb280, 1, none⟩ = some (.string ((rd_T41 ((rd_T38 l0 x4_1).f1) x6_2).f1)) := (blk_cell BK280.out 1).trans rfl; have hcz23_2 : w21.cell? ⟨gb280, 2, none⟩ = some (.slice Ao19 y284.length co19) := (blk_cell BK280.out 2).trans rfl; have hcz23_3 : w21.cell? ⟨gb280, 3, none⟩ = some (.int .i64 ((rd_T41 ((rd_T38 l0 x4_1).f1) x6_2).f3)) := (blk_cell BK280.out 3).trans rfl; have hcz23_4 : w21.cell? ⟨gb280, 4, none⟩ = some (.string ((rd_T41 ((rd_T38 l0 x4_1).f1) x6_2).f4)) := (blk_cell BK280.out 4).trans rfl; have hfz23_0 := blk_frozen BK280.out 0; have hfz23_1 := blk_frozen BK280.out 1; have hfz23_2 := blk_frozen BK280.out 2; have hfz23_3 := blk_frozen BK280.out 3; have hfz23_4 := blk_frozen BK280.out 4) | ((with_reducible refine gate_builtin (b := .append) (xs := #[.tmp 44, .tmp 46]) rfl ?_); at_builtin; refine Kd.S_append k41 (w0 := w) w.heap.size rfl (.tmp 44) (.tmp 46) 36 41 (.agg #[(.int .i64 0), (.string ⟨#[]⟩), (.slice none 0 0), (.int .i64 0), (.string ⟨#[]⟩)]) 72 rfl Try.underlying36 info41 rfl (by decide) (by omega) u277001 x277001_2 (⟨(rd_T41 ((rd_T38 l0 x4_1).f1) x6_2).f0, (rd_T41 ((rd_T38 l0 x4_1).f1) x6_2).f1, y284, (rd_T41 ((rd_T38 l0 x4_1).f1) x6_2).f3, (rd_T41 ((rd_T38 l0 x4_1).f1) x6_2).f4⟩ : S41) [.int .i64 ((rd_T41 ((rd_T38 l0 x4_1).f1) x6_2).f0), .string ((rd_T41 ((rd_T38 l0 x4_1).f1) x6_2).f1), .slice Ao19 y284.length co19, .int .i64 ((rd_T41 ((rd_T38 l0 x4_1).f1) x6_2).f3), .string ((rd_T41 ((rd_T38 l0 x4_1).f1) x6_2).f4)] (fun z => z ≠ gb280) (fun z => some z = (.slice Ao19 y284.length co19 : Value).ownBlock) rfl rfl ?aP (fun z hk_ => ((Kd.R_mono (ok' := fun z => ((fun z => z ≠ gb280)) z ∧ some z ≠ (u277001 : Value).ownBlock) (Kd.R_types (Kd.R_apart' (HO286.out) (Kd.S_typed HO_277001.out) (by decide)) BK280.out (by decide)) (fun z hk => ⟨hk.2, hk.1.2⟩))).1 z hk_.symm) ?aF ?aO ?aB ?aS ?aL ?_; (case aP => exact k41_mkM _ _ _ (⟨(rd_T41 ((rd_T38 l0 x4_1).f1) x6_2).f0, (rd_T41 ((rd_T38 l0 x4_1).f1) x6_2).f1, y284, (rd_T41 ((rd_T38 l0 x4_1).f1) x6_2).f3, (rd_T41 ((rd_T38 l0 x4_1).f1) x6_2).f4⟩ : S41) (Kd.R_mono (Kd.R_tight rfl (Kd.R_mono (ok' := fun z => ((fun z => z ≠ gb280)) z ∧ some z ≠ (u277001 : Value).ownBlock) (Kd.R_types (Kd.R_apart' (HO286.out) (Kd.S_typed HO_277001.out) (by decide)) BK280.out (by decide)) (fun z hk => ⟨hk.2, hk.1.2⟩))) (fun _ h_ => h_))); (case aB => exact (by repeat (first | (with_reducible first | exact HB.out | apply below_alloc | apply pw_below_drewN | apply below_drew1 | refine below_set ?_ GE276.out | refine below_set ?_ GE280.out) | exact HB.out))); (case aF => exact (fun z hk => Kd.freshB (g := gb280) (o := .cells #[.int .i64 ((rd_T41 ((rd_T38 l0 x4_1).f1) x6_2).f0), .string ((rd_T41 ((rd_T38 l0 x4_1).f1) x6_2).f1), .slice Ao19 y284.length co19, .int .i64 ((rd_T41 ((rd_T38 l0 x4_1).f1) x6_2).f3), .string ((rd_T41 ((rd_T38 l0 x4_1).f1) x6_2).f4)] 41 (0, 0)) (by (with_reducible repeat (first | apply blk_drewN | apply blk_drew | apply blk_alloc)); exact BK280.out) z hk)); (case aO => exact (by (with_reducible repeat (first | apply Kd.S_alloc | apply Kd.S_drewN | apply Kd.S_drew)); exact Kd.S_mono HO_277001.out (fun z hk => ⟨hk.2, fun e_ => hk.1 e_⟩))); (case aS => exact (below_size (by repeat (first | (with_reducible first | exact HB.out | apply below_alloc | apply pw_below_drewN | apply below_drew1 | refine below_set ?_ GE276.out | refine below_set ?_ GE280.out) | exact HB.out)))); (case aL => have := LMc11.out; omega); intro v288 w24 ho hb hg hat; rw [← Ny287.out] at ho; have n0 := am_ (Kd.R_after (ok := (fun z => some z ≠ (.slice Ao19 y284.length co19 : Value).ownBlock ∧ z ≠ gb276 ∧ z ≠ gb280)) (by (with_reducible repeat (first | apply Kd.R_alloc | apply Kd.R_drewN | apply Kd.R_drew)); exact Kd.R_mono HO_3.out (fun _ hk => ⟨⟨hk.2.1, ⟨hk.2.2.1, hk.2.2.2⟩⟩, hk.1⟩)) hg hat); have n1 := am_ (blk_grown (g := gb276) (o := .cells #[.string ((rd_T38 l0 x4_1).f0), u277001] 38 (0, 0)) (by (with_reducible repeat (first | apply blk_drewN | apply blk_drew | apply blk_alloc)); exact BK276.out) hg (Kd.S_ne HO_277001.out BK276.out (by decide))); have n2 := am_ (blk_grown (g := gb280) (o := .cells #[.int .i64 ((rd_T41 ((rd_T38 l0 x4_1).f1) x6_2).f0), .string ((rd_T41 ((rd_T38 l0 x4_1).f1) x6_2).f1), .slice Ao19 y284.length co19, .int .i64 ((rd_T41 ((rd_T38 l0 x4_1).f1) x6_2).f3), .string ((rd_T41 ((rd_T38 l0 x4_1).f1) x6_2).f4)] 41 (0, 0)) (by (with_reducible repeat (first | apply blk_drewN | apply blk_drew | apply blk_alloc)); exact BK280.out) hg (Kd.S_away HO_277001.out (fun _ hk => hk.2))); have n3 := am_ (hb); have n4 := am_ (ho); clear HO_3 BK276 BK280 HB HO_277001 HO286; have HO_3 := n0; have BK276 := n1; have BK280 := n2; have HB := n3; have HO289 := n4; clear n0 n1 n2 n3 n4 ho hb hg hat; obtain ⟨Ao25, co25, eo25⟩ := Kd.S_slice HO289.out; subst eo25; have hcz26_0 : w24.cell? ⟨gb276, 0, none⟩ = some (.string ((rd_T38 l0 x4_1).f0)) := (blk_cell BK276.out 0).trans rfl; have hcz26_1 : w24.cell? ⟨gb276, 1, none⟩ = some (u277001) := (blk_cell BK276.out 1).trans rfl; have hfz26_0 := blk_frozen BK276.out 0; have hfz26_1 := blk_frozen BK276.out 1))
                          go_roundg k2
                          case measure => have := HK1.out; have := HK2.out; omega
                          case rel => exact ⟨(wrap64 (x6_2 + 1)), (y287), (.slice Ao25 y287.length co25), (by first | rfl | (simp; done) | (simp [*]; done)), H', ⟨by have := HK1.out; have := HK2.out; omega⟩, ⟨by (with_reducible repeat (first | apply Kd.R_alloc | apply Kd.R_drewN | apply Kd.R_drew)); exact Kd.R_mono (Kd.R_far (p := ⟨gb276, 1, none⟩) (Kd.R_mono HO_3.out (fun z hk => (⟨hk, hk.1.2.1⟩ : _ ∧ z ≠ gb276))) (fun _ hk => hk.2) (.slice Ao25 y287.length co25)) (fun _ hk => ⟨hk.1.2, hk.1.1.2.1⟩)⟩, ⟨by (with_reducible repeat (first | apply Kd.S_alloc | apply Kd.S_drewN | apply Kd.S_drew)); exact Kd.S_mono (Kd.S_far (p := ⟨gb276, 1, none⟩) (Kd.S_types HO289.out BK276.out (by decide)) (fun _ hk => hk.2) (.slice Ao25 y287.length co25)) (fun _ hk => trivial)⟩, ⟨by (with_reducible repeat (first | apply blk_drewN | apply blk_drew | apply blk_alloc)); refine blk_put (cs := #[.string ((rd_T38 l0 x4_1).f0), u277001]) ?_ 1 _ rfl; (with_reducible repeat (first | apply blk_drewN | apply blk_drew | apply blk_alloc)); exact BK276.out⟩, ⟨by repeat (first | (with_reducible first | exact HB.out | apply below_alloc | apply pw_below_drewN | apply below_drew1 | refine below_set ?_ GE276.out | refine below_set ?_ GE280.out) | exact HB.out)⟩⟩
                        · rw [if_neg c11] at H
                          exact absurd H (by simp)
                      · rw [if_neg c10] at H
                        exact absurd H (by simp)
                    · rw [if_neg c9] at H
                      exact absurd H (by simp)
                  · rw [if_neg c8] at H
                    have c8b0 : decide (x6_2 < (((rd_T38 l0 x4_1).f1).length : Int)) = false := decide_eq_false c8
                    clear c8
                    by_cases c27 : x3_1.length < 3518437208883
                    · rw [if_pos c27] at H
                      have LMc27 := am_ c27
                      clear c27
                      obtain ⟨y290, hy290⟩ : ∃ y_ : List (S38), y_ = (x3_1 ++ [(⟨((rd_T38 l0 x4_1).f0), x277001_2⟩ : S38)]) := ⟨_, rfl⟩
                      replace H : (stolelaw0_CopyPipe.l0 k2 l0 y290 (wrap64 (x4_1 + 1))) = some r := by first | (rw [hy290]; with_reducible exact H) | (have H2_ := (Option.bind_some _ _).symm.trans H; rw [hy290]; with_reducible exact H2_) | (have H2_ := (Option.bind_some _ _).symm.trans H; with_reducible exact H2_) | with_reducible exact H | (rw [hy290]; exact H) | exact H
                      have Ny290 := am_ hy290
                      clear hy290
                      have H' := am_ H
                      clear H
                      have p277 : 0 ≤ (x4_1 : Int) := of_decide_eq_true (by first | (with_reducible assumption) | assumption)
                      have q277 : x4_1 < (l0.length : Int) := of_decide_eq_true (by first | (with_reducible assumption) | assumption)
                      obtain ⟨ad277, A277_1, c277_1, e277, hx277_0, hx277_1, hl277_1, hi277_1⟩ := at_T38 HR0.out x4_1 p277 q277
                      obtain rfl : ad275 = ad277 := (by injection e277)
                      replace hx277_0 := (HB.out.cell (World.block_lt_of_cell? w _ hx277_0)).trans hx277_0
                      replace hx277_1 := (HB.out.cell (World.block_lt_of_cell? w _ hx277_1)).trans hx277_1
                      have HR277_1 := am_ hi277_1
                      have HC277_1 := am_ hl277_1
                      clear hi277_1 hl277_1
                      replace p277 := eq_true p277
                      replace q277 := eq_true q277
                      have hcz28_0 : wr.cell? ⟨gb276, 0, none⟩ = some (.string ((rd_T38 l0 x4_1).f0)) := (blk_cell BK276.out 0).trans rfl
                      have hcz28_1 : wr.cell? ⟨gb276, 1, none⟩ = some (u277001) := (blk_cell BK276.out 1).trans rfl
                      have hfz28_0 := blk_frozen BK276.out 0
                      have hfz28_1 := blk_frozen BK276.out 1
                      obtain ⟨Ao30, co30, eo30⟩ := Kd.S_slice HO_277001.out
                      subst eo30
                      go_wp2_with (first | ((with_reducible refine gate_builtin (b := .append) (xs := #[.tmp 49, .tmp 51]) rfl ?_); at_builtin; refine Kd.R_append k38 (w0 := w) w.heap.size rfl (.tmp 49) (.tmp 51) 23 38 (.agg #[(.string ⟨#[]⟩), (.slice none 0 0)]) 40 rfl Try.underlying23 info38 rfl (by decide) (by omega) u3 x3_1 (⟨((rd_T38 l0 x4_1).f0), x277001_2⟩ : S38) [.string ((rd_T38 l0 x4_1).f0), .slice Ao30 x277001_2.length co30] (fun z => z ≠ gb276) (fun z => ((fun z => z ≠ gb276)) z ∧ some z ≠ (u3 : Value).ownBlock) rfl rfl ?aP (fun _ hk => hk) ?aF ?aO ?aB ?aS ?aL ?_; (case aP => exact k38_mkM _ _ _ (⟨((rd_T38 l0 x4_1).f0), x277001_2⟩ : S38) (Kd.R_mono (Kd.R_types (Kd.R_apart' ((Kd.S_R HO_277001.out)) (Kd.R_typed HO_3.out) (by decide)) BK276.out (by decide)) (fun z hk => ⟨hk.2, hk.1.2⟩))); (case aB => exact (by repeat (first | (with_reducible first | exact HB.out | apply below_alloc | apply pw_below_drewN | apply below_drew1 | refine below_set ?_ GE276.out) | exact HB.out))); (case aF => exact (fun z hk => Kd.freshB (g := gb276) (o := .cells #[.string ((rd_T38 l0 x4_1).f0), .slice Ao30 x277001_2.length co30] 38 (0, 0)) (by (with_reducible repeat (first | apply blk_drewN | apply blk_drew | apply blk_alloc)); exact BK276.out) z hk)); (case aO => exact (by (with_reducible repeat (first | apply Kd.R_alloc | apply Kd.R_drewN | apply Kd.R_drew)); exact Kd.R_mono HO_3.out (fun _ hk => hk.2))); (case aS => exact (below_size (by repeat (first | (with_reducible first | exact HB.out | apply below_alloc | apply pw_below_drewN | apply below_drew1 | refine below_set ?_ GE276.out) | exact HB.out)))); (case aL => have := LMc27.out; omega); intro v291 w29 ho hb hg hat; rw [← Ny290.out] at ho; have n0 := am_ (blk_grown (g := gb276) (o := .cells #[.string ((rd_T38 l0 x4_1).f0), .slice Ao30 x277001_2.length co30] 38 (0, 0)) (by (with_reducible repeat (first | apply blk_drewN | apply blk_drew | apply blk_alloc)); exact BK276.out) hg (Kd.R_away HO_3.out (fun _ hk => hk.2))); have n1 := am_ (hb); have n2 := am_ (ho); clear BK276 HB HO_3 HO_277001; have BK276 := n0; have HB := n1; have HO292 := n2; clear n0 n1 n2 ho hb hg hat))
                      go_roundg k2
                      case measure => have := HK1.out; have := HK2.out; omega
                      case rel => exact ⟨(y290), (wrap64 (x4_1 + 1)), (by first | rfl | (simp; done) | (simp [*]; done)), H', ⟨by have := HK1.out; have := HK2.out; omega⟩, ⟨by (with_reducible repeat (first | apply Kd.R_alloc | apply Kd.R_drewN | apply Kd.R_drew)); exact Kd.R_mono HO292.out (fun _ hk => trivial)⟩, ⟨by repeat (first | (with_reducible first | exact HB.out | apply below_alloc | apply pw_below_drewN | apply below_drew1 | refine below_set ?_ GE276.out) | exact HB.out)⟩⟩
                    · rw [if_neg c27] at H
                      exact absurd H (by simp)
                · rw [if_neg c7] at H
                  exact absurd H (by simp)
              · rw [if_neg c6] at H
                exact absurd H (by simp)
        · rw [if_neg c3] at H
          exact absurd H (by simp)
      · rw [if_neg c2] at H
        have c2b0 : decide (x4_1 < (l0.length : Int)) = false := decide_eq_false c2
        clear c2
        obtain rfl := Option.some.inj H
        go_wp2
        go_ret
        exact ⟨_, by first | rfl | (simp [errW_none, errW_some] <;> rfl) | (simp [*, errW_none, errW_some] <;> rfl), by (with_reducible repeat (first | apply Kd.R_alloc | apply Kd.R_drewN | apply Kd.R_drew)); exact HO_3.out, by repeat (first | (with_reducible first | exact HB.out | apply below_alloc | apply pw_below_drewN | apply below_drew1) | exact HB.out)⟩

end Go.Proofs.Ythaapadjlknieaa.Q
