/- Package pipe, walked: words parted at the first bar. -/
import Derived.Test.YthaapadjlknieaaPipeD
namespace Go.Proofs.Ythaapadjlknieaa.Pipe
open Go.RowKit Go.Proofs.Ythaapadjlknieaa.Q Go.Proofs.YthaapadjlknieaaW.PrintWords Go.Proofs.YthaapadjlknieaaW.PrintLast Go.Proofs.YthaapadjlknieaaW.PrintMore
set_option linter.unusedSimpArgs false
set_option linter.unusedVariables false

abbrev argW (x : Wd) (A2 : Option Addr) (c2 : Nat) : Value := .agg #[.int .i64 x.f0, .string x.f1, .slice A2 x.f2.length c2, .int .i64 x.f3]
set_option maxHeartbeats 4000000 in
set_option maxRecDepth 100000 in
theorem bar_calls (x : Wd) (A2 : Option Addr) (c2 : Nat) (w : World) :
    Calls Try.prog 31 #[argW x A2 c2] w fun e w' => e = .returned (.bool (barB x)) ∧ Below w.heap.size w w' := by
  have hu := Try.underlying45
  unfold barB
  go_enter Try.func31, Try.ntmps31
  go_upto_region 1 with (first | ((with_reducible refine gate_dst (N := 1) rfl ?_); (try (refine gate_guard (by rfl) ?_; dsimp only)); refine box_event ?hg (N := 1) ?hd (cs := #[.int .i64 x.f0, .string x.f1, .slice A2 x.f2.length c2, .int .i64 x.f3]) (t := 45) ?hr ?_; (case hd => rfl); (case hg => rfl); (case hr => first | (go_simp; done) | (go_simp; rfl)); intro gb hg w3 hbox hb; have BK := Lib.hid hbox; have HB := Lib.hid hb; have g0 := (blk_cell hbox 0).trans rfl; clear hb hbox hg))
  go_wp2
  go_ret
  exact ⟨rfl, HB.out⟩

/-- The place of the first bar, or -1. -/
def barI : List Wd → Int → Int
  | [], _ => -1
  | x :: xs, i => if barB x = true then i else barI xs (i + 1)

set_option maxHeartbeats 8000000 in
set_option maxRecDepth 100000 in
theorem indexW_calls (xs : List Wd) (A : Option Addr) (c : Nat) (w : World) (hl : xs.length < 1099511627776) (hA : Kd.C kW w A xs.length xs) :
    Calls Try.prog 30 #[.slice A xs.length c, .func (.func 31) #[] #[]] w fun e w' => e = .returned (.int .i64 (barI xs 0)) ∧ Below w.heap.size w w' := by
  have hu := Try.underlying45
  have HA0 := Lib.hid hA
  clear hA
  obtain ⟨R, hR⟩ : ∃ R, barI xs 0 = R := ⟨_, rfl⟩
  rw [hR]
  go_enter Try.func30, Try.ntmps30
  go_wp2
  have A1 := Aside0.mk (Below.refl w.heap.size w)
  go_loopg [8] xs.length (fun kq v8 w' => ∃ (i : Int), v8 = .int .i64 i ∧ Aside0 (i + kq = xs.length ∧ 0 ≤ i) ∧ Aside0 (barI (xs.drop i.toNat) i = R) ∧ Aside0 (Below w.heap.size w w'))
  case atStart => exact ⟨0, rfl, ⟨by omega, by omega⟩, ⟨hR⟩, A1⟩
  case round =>
    clear A1
    obtain ⟨i, rfl, HI, HM, HB⟩ := hrel
    obtain ⟨hi1, hi0⟩ := HI.out
    cases gk with
    | zero =>
      have hlt : decide (i < (xs.length : Int)) = false := decide_eq_false (by omega)
      have e := HM.out
      rw [List.drop_of_length_le (by omega)] at e
      have e1 : R = -1 := e.symm
      clear e hi1 hi0 hR
      subst e1
      go_wp2
      go_ret
      exact ⟨rfl, HB.out⟩
    | succ k2 =>
      have hlt : decide (i < (xs.length : Int)) = true := decide_eq_true (by omega)
      have hlt' : i < (xs.length : Int) := by omega
      obtain ⟨ad, E2, e2, rfl, hAt, hk2⟩ := AtW.of_elem HA0.out i hi0 hlt'
      have q0 := eq_true hi0
      have q1 := eq_true hlt'
      have en : (i + 1).toNat = i.toNat + 1 := by omega
      have wi : wrap64 (i + 1) = i + 1 := wrap_small _ (by omega) (by omega)
      have wi' : IntKind.i64.wrap (i + 1) = i + 1 := by rw [i64_w]; exact wi
      obtain ⟨a0, a1, a2, a3⟩ := hAt.below HB.out
      have hstep := rd_W xs i.toNat (by omega)
      have ei : ((i.toNat : Nat) : Int) = i := by omega
      rw [ei] at hstep
      have hM := HM.out
      rw [hstep] at hM
      have HI2 := Aside0.mk (show i + 1 + k2 = xs.length ∧ 0 ≤ i + 1 from ⟨by omega, by omega⟩)
      have CS := Lib.hid (bar_calls (rd_T45 xs i) E2 e2 wr)
      clear hk2 hAt ei hstep HM hR
      simp only [barI] at hM
      generalize barB (rd_T45 xs i) = mb at CS hM
      cases mb
      · rw [if_neg (by decide)] at hM
        have HM2 := Aside0.mk (show barI (xs.drop (i + 1).toNat) (i + 1) = R by rw [en]; exact hM)
        clear hM
        go_wp2_with (go_at_call 31; refine CS.out.mono ?_; rintro e w' ⟨rfl, hb4⟩; have HB4 := Aside0.mk (below_step HB.out hb4); clear hb4)
        go_roundg k2
        case measure => omega
        case rel => exact ⟨i + 1, rfl, HI2, HM2, HB4⟩
      · rw [if_pos rfl] at hM
        subst hM
        go_wp2_with (go_at_call 31; refine CS.out.mono ?_; rintro e w' ⟨rfl, hb4⟩; have HB4 := Lib.hid (below_step HB.out hb4); clear hb4)
        go_ret
        exact ⟨rfl, HB4.out⟩

theorem bar_none : ∀ (l : List Wd) (i : Int), 0 ≤ i → barI l i < 0 → segs barB l = [l]
  | [], _, _, _ => rfl
  | x :: xs, i, h, h1 => by
    unfold barI at h1
    split at h1
    · omega
    · rename_i c
      unfold segs
      rw [if_neg c, bar_none xs (i + 1) (by omega) h1]; rfl
theorem bar_some : ∀ (l : List Wd) (i : Int), 0 ≤ i → 0 ≤ barI l i → i ≤ barI l i ∧ barI l i < i + l.length ∧ segs barB l = l.take (barI l i - i).toNat :: segs barB (l.drop ((barI l i - i).toNat + 1))
  | [], i, _, h1 => absurd h1 (by unfold barI; decide)
  | x :: xs, i, h, h1 => by
    unfold barI at h1 ⊢
    split at h1
    · rename_i c
      rw [if_pos c]
      refine ⟨Int.le_refl _, by simp; omega, ?_⟩
      conv => lhs; unfold segs
      rw [if_pos c, Int.sub_self]; rfl
    · rename_i c
      rw [if_neg c]
      obtain ⟨h2, h3, h4⟩ := bar_some xs (i + 1) (by omega) h1
      refine ⟨by omega, by simp; omega, ?_⟩
      conv => lhs; unfold segs
      rw [if_neg c, h4]
      have e : (barI xs (i + 1) - i).toNat = (barI xs (i + 1) - (i + 1)).toNat + 1 := by omega
      rw [e]; rfl
/-- What cut answers. -/
def CutAns (w0 w : World) (l : List Wd) (e : Ending) (w' : World) : Prop := ∃ (A1 : Option Addr) (l1 : List Wd) (c1 : Nat) (A2 : Option Addr) (l2 : List Wd) (c2 : Nat) (more : Bool),
    e = .returned (.tuple #[.slice A1 l1.length c1, .slice A2 l2.length c2, .bool more]) ∧ Kd.C kW w0 A1 l1.length l1 ∧ l1.length ≤ c1 ∧ Kd.C kW w0 A2 l2.length l2 ∧ l2.length ≤ c2 ∧
    segs barB l = l1 :: (if more = true then segs barB l2 else []) ∧ (∀ x ∈ l1, x ∈ l) ∧ (∀ x ∈ l2, x ∈ l) ∧ l1.length ≤ l.length ∧ l2.length ≤ l.length ∧ Below w.heap.size w w'
set_option maxHeartbeats 8000000 in
set_option maxRecDepth 100000 in
theorem cut_calls (A : Option Addr) (c : Nat) (l : List Wd) (w0 w : World) (hb0 : Below w0.heap.size w0 w) (hA : Kd.C kW w0 A l.length l) (hc : l.length ≤ c) (hl : l.length < 1099511627776) :
    Calls Try.prog 17 #[.slice A l.length c] w (CutAns w0 w l) := by
  have CI := Lib.hid (indexW_calls l A c w hl (Kd.C_below hA hb0))
  have B0 := bar_none l 0 (Int.le_refl _)
  have B1 := bar_some l 0 (Int.le_refl _)
  generalize hbi : barI l 0 = bi at *
  clear hbi
  have HA := Lib.hid hA; have HC := Lib.hid hc
  clear hA hb0
  by_cases hneg : bi < 0
  · have t0 : decide (bi < 0) = true := decide_eq_true hneg
    have S := Lib.hid (B0 hneg)
    clear B0 B1 hneg hc
    go_enter Try.func17, Try.ntmps17
    go_wp2_with (go_at_call 30; refine CI.out.mono ?_; rintro e w' ⟨rfl, hb4⟩; have HB4 := Lib.hid hb4; clear hb4)
    go_ret3
    exact ⟨A, l, c, none, [], 0, false, rfl, HA.out, HC.out, Kd.C_nil _ _, Nat.le_refl _, S.out, fun _ h => h, fun x h => absurd h (by simp), Nat.le_refl _, Nat.zero_le _, HB4.out⟩
  · have t0 : decide (bi < 0) = false := decide_eq_false hneg
    obtain ⟨h2, h3, h4⟩ := B1 (by omega)
    obtain ⟨j, rfl⟩ : ∃ j : Nat, bi = (j : Int) := ⟨bi.toNat, by omega⟩
    have ej : ((j : Int) - 0).toNat = j := by omega
    rw [ej] at h4
    have hj : j < l.length := by omega
    have S := Lib.hid h4
    have wi' : IntKind.i64.wrap ((j : Int) + 1) = (j : Int) + 1 := by rw [i64_w]; exact wrap_small _ (by omega) (by omega)
    have HJ := Lib.hid hj
    have C1 := Lib.hid (Kd.C_take (m := j) HA.out (Nat.le_of_lt hj))
    have C2 := Lib.hid (Kd.C_drop (m := j + 1) HA.out hj HC.out)
    obtain ⟨n, hn⟩ : ∃ n, l.length = n := ⟨_, rfl⟩
    have HN := Lib.hid hn
    rw [hn] at hj hc CI ⊢
    have q1 := eq_true (show j ≤ c by omega)
    have q2 := eq_true (show j + 1 ≤ n by omega)
    have q3 := eq_true (show j ≤ n by omega)
    clear B0 B1 hneg h2 h3 h4 ej hl hn
    go_enter Try.func17, Try.ntmps17
    go_wp2_with (go_at_call 30; refine CI.out.mono ?_; rintro e w' ⟨rfl, hb4⟩; have HB4 := Lib.hid hb4; clear hb4)
    go_quiet (fail)
    go_wp2
    all_goals go_ret3
    all_goals
      have hlen1 : (l.take j).length = j := by rw [List.length_take]; have := HJ.out; omega
      have hlen2 : (l.drop (j + 1)).length = n - (j + 1) := by rw [List.length_drop, HN.out]
      have e1 := HC.out; have e2 := HJ.out; have e3 := HN.out
      have e4 : segs barB l = l.take j :: (if true = true then segs barB (l.drop (j + 1)) else []) := by rw [if_pos rfl]; exact S.out
      have c2 := C2.out
      first
        | exact ⟨A, l.take j, j + 1, A, l.drop (j + 1), 0, true, by rw [hlen1, hlen2]; rfl, C1.out, by rw [hlen1]; omega, by rw [if_pos (by omega)] at c2; exact c2, by rw [hlen2]; omega, e4, fun x hx => List.mem_of_mem_take hx, fun x hx => List.mem_of_mem_drop hx, by rw [hlen1]; omega, by rw [hlen2]; omega, by first | exact HB4.out | exact pw_below_drewN HB4.out _⟩
        | exact ⟨A, l.take j, c, A.map (·.add ((j + 1) * 4)), l.drop (j + 1), c - (j + 1), true, by rw [hlen1, hlen2]; rfl, C1.out, by rw [hlen1]; omega, by rw [if_neg (by omega)] at c2; exact c2, by rw [hlen2]; omega, e4, fun x hx => List.mem_of_mem_take hx, fun x hx => List.mem_of_mem_drop hx, by rw [hlen1]; omega, by rw [hlen2]; omega, by first | exact HB4.out | exact pw_below_drewN HB4.out _⟩
end Go.Proofs.Ythaapadjlknieaa.Pipe
