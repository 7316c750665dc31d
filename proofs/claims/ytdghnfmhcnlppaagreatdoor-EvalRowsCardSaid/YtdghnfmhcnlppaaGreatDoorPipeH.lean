/- Package pipe, walked: May. -/
import Derived.Test.YtdghnfmhcnlppaaGreatDoorPipeG
namespace Go.Proofs.YtdghnfmhcnlppaaGreatDoor.Pipe
open Go.RowKit Go.Proofs.YtdghnfmhcnlppaaGreatDoor.Q Go.Proofs.YtdghnfmhcnlppaaGreatDoorW.PrintWords Go.Proofs.YtdghnfmhcnlppaaGreatDoorW.PrintLast Go.Proofs.YtdghnfmhcnlppaaGreatDoorW.PrintMore
set_option linter.unusedSimpArgs false
set_option linter.unusedVariables false

theorem rd_C (xs : List Cm) (i : Nat) (hi : i < xs.length) : xs.drop i = rd_T50 xs (i : Int) :: xs.drop (i + 1) := by
  rw [List.drop_eq_getElem_cons hi]
  congr 1
  unfold rd_T50
  simp [hi]
theorem rd_A (xs : List Ag) (i : Nat) (hi : i < xs.length) : xs.drop i = rd_T57 xs (i : Int) :: xs.drop (i + 1) := by
  rw [List.drop_eq_getElem_cons hi]
  congr 1
  unfold rd_T57
  simp [hi]
theorem AtA.of_elem {w : World} {A : Option Addr} {n : Nat} {xs : List Ag} (h : Kd.C kA w A n xs) (i : Int) (h0 : 0 ≤ i) (h1 : i < n) : ∃ ad A2 c2, A = some ad ∧ AtA w (ad.add (i.toNat * 5)) (rd_T57 xs i) A2 c2 ∧ (rd_T57 xs i).f2.length ≤ c2 ∧ Kd.C Kd.string w A2 (rd_T57 xs i).f2.length (rd_T57 xs i).f2 := by
  obtain ⟨ad, A2, c2, e, g0, g1, g2, g3, g4, l2, k2⟩ := at_T57 h i h0 h1
  exact ⟨ad, A2, c2, e, ⟨g0, g1, g2, g3, g4⟩, l2, k2⟩
theorem cms_step (b : Bool) (c : Cm) (cs : List Cm) : cmsB b (c :: cs) = (cmB b c && cmsB false cs) := rfl

set_option maxHeartbeats 16000000 in
set_option maxRecDepth 100000 in
theorem May_calls (A : Option Addr) (c : Nat) (l : List Cm) (w : World) (hA : Kd.C kC w A l.length l) (hc : l.length ≤ c) :
    Calls Tryz.prog 22 #[.slice A l.length c] w fun e w' => e = .returned (.bool (mayP l)) ∧ Below w.heap.size w w' := by
  have HA := Lib.hid hA
  clear hA hc
  obtain ⟨n, hn⟩ : ∃ n, l.length = n := ⟨_, rfl⟩
  have HN := Lib.hid hn
  unfold mayP
  rw [hn]
  clear hn
  obtain ⟨R, hR⟩ : ∃ R, (decide (1 ≤ n) && decide (n ≤ 8) && cmsB true l) = R := ⟨_, rfl⟩
  rw [hR]
  by_cases h1 : n < 1
  · have t1 : decide (n < 1) = true := decide_eq_true h1
    have e1 : decide (1 ≤ n) = false := decide_eq_false (by omega)
    rw [e1, Bool.false_and, Bool.false_and] at hR
    subst hR
    obtain rfl : n = 0 := by omega
    clear t1 e1 h1
    go_enter Tryz.func22, Tryz.ntmps22
    go_wp2
    go_ret
    exact ⟨rfl, Below.refl _ _⟩
  have t1 : decide (n < 1) = false := decide_eq_false h1
  have t1' : decide ((n : Int) < 1) = false := decide_eq_false (by omega)
  have t1n : decide (n = 0) = false := decide_eq_false (by omega)
  have e1 : decide (1 ≤ n) = true := decide_eq_true (by omega)
  rw [e1, Bool.true_and] at hR
  clear e1
  by_cases h8 : 8 < n
  · have t8 : decide (8 < n) = true := decide_eq_true h8
    have e1 : decide (n ≤ 8) = false := decide_eq_false (by omega)
    rw [e1, Bool.false_and] at hR
    subst hR
    clear e1
    go_enter Tryz.func22, Tryz.ntmps22
    go_wp2
    go_ret
    exact ⟨rfl, Below.refl _ _⟩
  have t8 : decide (8 < n) = false := decide_eq_false h8
  have t8i : decide ((8 : Int) < (n : Int)) = false := decide_eq_false (by omega)
  have e1 : decide (n ≤ 8) = true := decide_eq_true (by omega)
  rw [e1, Bool.true_and] at hR
  have HL := Lib.hid (by omega : n ≤ 8)
  clear e1 h8 h1
  go_enter Tryz.func22, Tryz.ntmps22
  go_wp2
  go_loopg [17] n (fun kq v17 wr => ∃ (i : Nat), v17 = .int .i64 (i : Int) ∧ Aside0 (i + kq = n) ∧ Aside0 (cmsB (decide (i = 0)) (l.drop i) = R) ∧ Aside0 (Below w.heap.size w wr))
  case atStart => exact ⟨0, rfl, ⟨by omega⟩, ⟨hR⟩, ⟨Below.refl _ _⟩⟩
  case round =>
    clear hR
    obtain ⟨i, rfl, HI, HM, HB⟩ := hrel
    have hi := HI.out
    cases gk with
    | zero =>
      have hlt : decide (i < n) = false := decide_eq_false (by omega)
      have hM := HM.out
      rw [List.drop_of_length_le (by have := HN.out; omega)] at hM
      have hRt : R = true := hM.symm
      subst hRt
      clear hi hM
      go_wp2
      go_ret
      exact ⟨rfl, HB.out⟩
    | succ k2 =>
      have hlt : decide (i < n) = true := decide_eq_true (by omega)
      have hltn := eq_true (show i < n by omega)
      have hlt' : (i : Int) < (l.length : Int) := by have := HN.out; omega
      have hi0 : (0 : Int) ≤ (i : Int) := by omega
      obtain ⟨ad, E1, e1, rfl, g0', g1', hl1, hk1⟩ := at_T50 HA.out (i : Int) hi0 hlt'
      have ti : (i : Int).toNat = i := by omega
      rw [ti] at g0' g1'
      have wi' : IntKind.i64.wrap ((i : Int) + 1) = (i : Int) + 1 := by rw [i64_w]; exact wrap_small _ (by have := HL.out; omega) (by have := HL.out; omega)
      have hstep := rd_C l i (by have := HN.out; omega)
      have hM := HM.out
      rw [hstep, cms_step] at hM
      have g0 := pw_cell_below HB.out g0'
      have g1 := pw_cell_below HB.out g1'
      generalize rd_T50 l (i : Int) = x at *
      have HK := Lib.hid hk1
      have G0 := Lib.hid g0'
      have G1 := Lib.hid g1'
      clear g0' g1' hk1 hstep hlt' hi0 hl1 HM hi
      obtain ⟨m, hm⟩ : ∃ m, x.f1.length = m := ⟨_, rfl⟩
      have HMm := Lib.hid hm
      unfold cmB at hM
      have g1w_ := G1.out
      rw [hm] at hM g1 g1w_
      have G1w := Lib.hid g1w_
      clear g1w_ G1
      clear hm
      have CF := Lib.hid (fn_calls x.f0)
      generalize hfb : fnB x.f0 = fb at *
      clear hfb
      obtain ⟨l8, hl8⟩ : ∃ b, decide (8 < m) = b := ⟨_, rfl⟩
      have hl8' : decide (m ≤ 8) = !l8 := by rw [← hl8]; by_cases c : 8 < m <;> simp [c] <;> omega
      rw [hl8'] at hM
      have hl8i : decide ((8 : Int) < (m : Int)) = l8 := by rw [← hl8]; exact decide_eq_decide.2 (by omega)
      clear hl8'
      cases hs : (x.f0.toList == ([] : List UInt8)) with
      | false =>
        rw [hs] at hM
        cases fb with
        | false =>
          have hRf : R = false := by rw [← hM]; simp
          subst hRf
          clear hM
          go_wp2_with (first | (go_at_call 39; refine (CF.out _).mono ?_; rintro e w' ⟨rfl, ⟨nd, rfl⟩⟩))
          go_ret
          exact ⟨rfl, pw_below_drewN HB.out _⟩
        | true =>
          cases l8 with
          | true =>
            have hRf : R = false := by rw [← hM]; simp
            subst hRf
            clear hM
            go_wp2_with (first | (go_at_call 39; refine (CF.out _).mono ?_; rintro e w' ⟨rfl, ⟨nd, rfl⟩⟩))
            go_ret
            exact ⟨rfl, pw_below_drewN HB.out _⟩
          | false =>
            have hM' : (x.f1.all amB && cmsB false (l.drop (i + 1))) = R := by rw [← hM]; simp
            clear hM
            have hM : ((x.f1.drop 0).all amB && cmsB false (l.drop (i + 1))) = R := hM'
            have L8 := Lib.hid (by have h := of_decide_eq_false hl8; omega : m ≤ 8)
            go_wp2_with (first | (go_at_call 39; refine (CF.out _).mono ?_; rintro e w' ⟨rfl, ⟨nd, rfl⟩⟩))
            have B1 := Aside0.mk (show Below w.heap.size w (wr.drewN nd) from pw_below_drewN HB.out nd)
            generalize (wr.drewN nd) = w1 at *
            go_loopg [63] m (fun kq v63 wr => ∃ (j : Nat), v63 = .int .i64 (j : Int) ∧ Aside0 (j + kq = m) ∧ Aside0 (((x.f1.drop j).all amB && cmsB false (l.drop (i + 1))) = R) ∧ Aside0 (Below w.heap.size w wr))
            case atStart => exact ⟨0, rfl, ⟨by omega⟩, ⟨hM⟩, B1⟩
            case round =>
              clear hM B1 g0 g1
              obtain ⟨j, rfl, HJ, HM, HBj⟩ := hrel
              have hj := HJ.out
              have g0 := pw_cell_below HBj.out G0.out
              have g1 := pw_cell_below HBj.out G1w.out
              cases gk with
              | zero =>
                have hltj : decide (j < m) = false := decide_eq_false (by omega)
                have hM := HM.out
                rw [List.drop_of_length_le (by have := HMm.out; omega), List.all_nil, Bool.true_and] at hM
                have hz : decide (i + 1 = 0) = false := decide_eq_false (by omega)
                have HM2 := Aside0.mk (show cmsB (decide (i + 1 = 0)) (l.drop (i + 1)) = R by rw [hz]; exact hM)
                clear hj hM hz
                go_wp2
                go_roundg k2
                case measure => omega
                case rel => exact ⟨i + 1, by simp, ⟨by have := HI.out; omega⟩, HM2, HBj⟩
              | succ k3 =>
                have hltj : decide (j < m) = true := decide_eq_true (by omega)
                have hltjn := eq_true (show j < m by omega)
                obtain ⟨ad2, F2, f2, rfl, hAt, hlc, hk2⟩ := AtA.of_elem HK.out (j : Int) (by omega) (by have := HMm.out; omega)
                have tj : (j : Int).toNat = j := by omega
                rw [tj] at hAt
                have wj' : IntKind.i64.wrap ((j : Int) + 1) = (j : Int) + 1 := by rw [i64_w]; exact wrap_small _ (by have := L8.out; omega) (by have := L8.out; omega)
                have hstepj := rd_A x.f1 j (by have := HMm.out; omega)
                have hM := HM.out
                rw [hstepj, List.all_cons] at hM
                generalize rd_T57 x.f1 (j : Int) = y at *
                have CA := Lib.hid (argMay_calls (ad2.add (j * 5)) y F2 f2 wr (hAt.below HBj.out) (Kd.C_below hk2 HBj.out))
                clear hAt hk2 hstepj HM hj hlc
                cases hy : amB y with
                | false =>
                  rw [hy] at CA hM
                  have hRf : R = false := by rw [← hM]; rfl
                  subst hRf
                  clear hM hy
                  go_wp2_with (go_at_call 40; refine CA.out.mono ?_; rintro e w5 ⟨rfl, hb5⟩; have HB5 := Lib.hid (below_step HBj.out hb5); clear hb5)
                  go_ret
                  exact ⟨rfl, HB5.out⟩
                | true =>
                  rw [hy, Bool.true_and] at hM
                  rw [hy] at CA
                  have HM2 := Aside0.mk hM
                  clear hM hy
                  go_wp2_with (go_at_call 40; refine CA.out.mono ?_; rintro e w5 ⟨rfl, hb5⟩; have HB5 := Aside0.mk (below_step HBj.out hb5); clear hb5)
                  go_roundg k3
                  case measure => omega
                  case rel => exact ⟨j + 1, by simp, ⟨by have := HJ.out; omega⟩, HM2, HB5⟩
      | true =>
        rw [hs] at hM
        by_cases hi0 : i = 0
        · have hz : decide (i = 0) = true := decide_eq_true hi0
          have hz' : ((i : Int) == 0) = true := beq_iff_eq.2 (by omega)
          have hz'' : (i == 0) = true := beq_iff_eq.2 hi0
          rw [hz] at hM
          clear hi0
          cases hm1 : (m == 1) with
          | false =>
            rw [hm1] at hM
            have hm1' : ((m : Int) == 1) = false := by have h := beq_eq_false_iff_ne.1 hm1; exact beq_eq_false_iff_ne.2 (by omega)
            cases fb with
            | false =>
              have hRf : R = false := by rw [← hM]; simp
              subst hRf
              clear hM
              go_wp2_with (first | (go_at_call 39; refine (CF.out _).mono ?_; rintro e w' ⟨rfl, ⟨nd, rfl⟩⟩))
              go_ret
              exact ⟨rfl, pw_below_drewN HB.out _⟩
            | true =>
              cases l8 with
              | true =>
                have hRf : R = false := by rw [← hM]; simp
                subst hRf
                clear hM
                go_wp2_with (first | (go_at_call 39; refine (CF.out _).mono ?_; rintro e w' ⟨rfl, ⟨nd, rfl⟩⟩))
                go_ret
                exact ⟨rfl, pw_below_drewN HB.out _⟩
              | false =>
                have hM' : (x.f1.all amB && cmsB false (l.drop (i + 1))) = R := by rw [← hM]; simp
                clear hM
                have hM : ((x.f1.drop 0).all amB && cmsB false (l.drop (i + 1))) = R := hM'
                have L8 := Lib.hid (by have h := of_decide_eq_false hl8; omega : m ≤ 8)
                go_wp2_with (first | (go_at_call 39; refine (CF.out _).mono ?_; rintro e w' ⟨rfl, ⟨nd, rfl⟩⟩))
                have B1 := Aside0.mk (show Below w.heap.size w (wr.drewN nd) from pw_below_drewN HB.out nd)
                generalize (wr.drewN nd) = w1 at *
                go_loopg [63] m (fun kq v63 wr => ∃ (j : Nat), v63 = .int .i64 (j : Int) ∧ Aside0 (j + kq = m) ∧ Aside0 (((x.f1.drop j).all amB && cmsB false (l.drop (i + 1))) = R) ∧ Aside0 (Below w.heap.size w wr))
                case atStart => exact ⟨0, rfl, ⟨by omega⟩, ⟨hM⟩, B1⟩
                case round =>
                  clear hM B1 g0 g1
                  obtain ⟨j, rfl, HJ, HM, HBj⟩ := hrel
                  have hj := HJ.out
                  have g0 := pw_cell_below HBj.out G0.out
                  have g1 := pw_cell_below HBj.out G1w.out
                  cases gk with
                  | zero =>
                    have hltj : decide (j < m) = false := decide_eq_false (by omega)
                    have hM := HM.out
                    rw [List.drop_of_length_le (by have := HMm.out; omega), List.all_nil, Bool.true_and] at hM
                    have hz : decide (i + 1 = 0) = false := decide_eq_false (by omega)
                    have HM2 := Aside0.mk (show cmsB (decide (i + 1 = 0)) (l.drop (i + 1)) = R by rw [hz]; exact hM)
                    clear hj hM hz
                    go_wp2
                    go_roundg k2
                    case measure => omega
                    case rel => exact ⟨i + 1, by simp, ⟨by have := HI.out; omega⟩, HM2, HBj⟩
                  | succ k3 =>
                    have hltj : decide (j < m) = true := decide_eq_true (by omega)
                    have hltjn := eq_true (show j < m by omega)
                    obtain ⟨ad2, F2, f2, rfl, hAt, hlc, hk2⟩ := AtA.of_elem HK.out (j : Int) (by omega) (by have := HMm.out; omega)
                    have tj : (j : Int).toNat = j := by omega
                    rw [tj] at hAt
                    have wj' : IntKind.i64.wrap ((j : Int) + 1) = (j : Int) + 1 := by rw [i64_w]; exact wrap_small _ (by have := L8.out; omega) (by have := L8.out; omega)
                    have hstepj := rd_A x.f1 j (by have := HMm.out; omega)
                    have hM := HM.out
                    rw [hstepj, List.all_cons] at hM
                    generalize rd_T57 x.f1 (j : Int) = y at *
                    have CA := Lib.hid (argMay_calls (ad2.add (j * 5)) y F2 f2 wr (hAt.below HBj.out) (Kd.C_below hk2 HBj.out))
                    clear hAt hk2 hstepj HM hj hlc
                    cases hy : amB y with
                    | false =>
                      rw [hy] at CA hM
                      have hRf : R = false := by rw [← hM]; rfl
                      subst hRf
                      clear hM hy
                      go_wp2_with (go_at_call 40; refine CA.out.mono ?_; rintro e w5 ⟨rfl, hb5⟩; have HB5 := Lib.hid (below_step HBj.out hb5); clear hb5)
                      go_ret
                      exact ⟨rfl, HB5.out⟩
                    | true =>
                      rw [hy, Bool.true_and] at hM
                      rw [hy] at CA
                      have HM2 := Aside0.mk hM
                      clear hM hy
                      go_wp2_with (go_at_call 40; refine CA.out.mono ?_; rintro e w5 ⟨rfl, hb5⟩; have HB5 := Aside0.mk (below_step HBj.out hb5); clear hb5)
                      go_roundg k3
                      case measure => omega
                      case rel => exact ⟨j + 1, by simp, ⟨by have := HJ.out; omega⟩, HM2, HB5⟩
          | true =>
            rw [hm1] at hM
            have hme : m = 1 := beq_iff_eq.1 hm1
            have hl8f : l8 = false := by rw [← hl8, hme]; rfl
            subst hl8f
            have hm1' : ((m : Int) == 1) = true := beq_iff_eq.2 (by omega)
            have hM' : (x.f1.all amB && cmsB false (l.drop (i + 1))) = R := by rw [← hM]; simp
            clear hM
            have hM : ((x.f1.drop 0).all amB && cmsB false (l.drop (i + 1))) = R := hM'
            have L8 := Lib.hid (by omega : m ≤ 8)
            clear hme hM'
            go_wp2
            have B1 := Aside0.mk (show Below w.heap.size w wr from HB.out)
            go_loopg [63] m (fun kq v63 wr => ∃ (j : Nat), v63 = .int .i64 (j : Int) ∧ Aside0 (j + kq = m) ∧ Aside0 (((x.f1.drop j).all amB && cmsB false (l.drop (i + 1))) = R) ∧ Aside0 (Below w.heap.size w wr))
            case atStart => exact ⟨0, rfl, ⟨by omega⟩, ⟨hM⟩, B1⟩
            case round =>
              clear hM B1 g0 g1
              obtain ⟨j, rfl, HJ, HM, HBj⟩ := hrel
              have hj := HJ.out
              have g0 := pw_cell_below HBj.out G0.out
              have g1 := pw_cell_below HBj.out G1w.out
              cases gk with
              | zero =>
                have hltj : decide (j < m) = false := decide_eq_false (by omega)
                have hM := HM.out
                rw [List.drop_of_length_le (by have := HMm.out; omega), List.all_nil, Bool.true_and] at hM
                have hz : decide (i + 1 = 0) = false := decide_eq_false (by omega)
                have HM2 := Aside0.mk (show cmsB (decide (i + 1 = 0)) (l.drop (i + 1)) = R by rw [hz]; exact hM)
                clear hj hM hz
                go_wp2
                go_roundg k2
                case measure => omega
                case rel => exact ⟨i + 1, by simp, ⟨by have := HI.out; omega⟩, HM2, HBj⟩
              | succ k3 =>
                have hltj : decide (j < m) = true := decide_eq_true (by omega)
                have hltjn := eq_true (show j < m by omega)
                obtain ⟨ad2, F2, f2, rfl, hAt, hlc, hk2⟩ := AtA.of_elem HK.out (j : Int) (by omega) (by have := HMm.out; omega)
                have tj : (j : Int).toNat = j := by omega
                rw [tj] at hAt
                have wj' : IntKind.i64.wrap ((j : Int) + 1) = (j : Int) + 1 := by rw [i64_w]; exact wrap_small _ (by have := L8.out; omega) (by have := L8.out; omega)
                have hstepj := rd_A x.f1 j (by have := HMm.out; omega)
                have hM := HM.out
                rw [hstepj, List.all_cons] at hM
                generalize rd_T57 x.f1 (j : Int) = y at *
                have CA := Lib.hid (argMay_calls (ad2.add (j * 5)) y F2 f2 wr (hAt.below HBj.out) (Kd.C_below hk2 HBj.out))
                clear hAt hk2 hstepj HM hj hlc
                cases hy : amB y with
                | false =>
                  rw [hy] at CA hM
                  have hRf : R = false := by rw [← hM]; rfl
                  subst hRf
                  clear hM hy
                  go_wp2_with (go_at_call 40; refine CA.out.mono ?_; rintro e w5 ⟨rfl, hb5⟩; have HB5 := Lib.hid (below_step HBj.out hb5); clear hb5)
                  go_ret
                  exact ⟨rfl, HB5.out⟩
                | true =>
                  rw [hy, Bool.true_and] at hM
                  rw [hy] at CA
                  have HM2 := Aside0.mk hM
                  clear hM hy
                  go_wp2_with (go_at_call 40; refine CA.out.mono ?_; rintro e w5 ⟨rfl, hb5⟩; have HB5 := Aside0.mk (below_step HBj.out hb5); clear hb5)
                  go_roundg k3
                  case measure => omega
                  case rel => exact ⟨j + 1, by simp, ⟨by have := HJ.out; omega⟩, HM2, HB5⟩
        · have hz : decide (i = 0) = false := decide_eq_false hi0
          have hz' : ((i : Int) == 0) = false := beq_eq_false_iff_ne.2 (by omega)
          have hz'' : (i == 0) = false := beq_eq_false_iff_ne.2 hi0
          rw [hz] at hM
          clear hi0
          cases fb with
          | false =>
            have hRf : R = false := by rw [← hM]; simp
            subst hRf
            clear hM
            go_wp2_with (first | (go_at_call 39; refine (CF.out _).mono ?_; rintro e w' ⟨rfl, ⟨nd, rfl⟩⟩))
            go_ret
            exact ⟨rfl, pw_below_drewN HB.out _⟩
          | true =>
            cases l8 with
            | true =>
              have hRf : R = false := by rw [← hM]; simp
              subst hRf
              clear hM
              go_wp2_with (first | (go_at_call 39; refine (CF.out _).mono ?_; rintro e w' ⟨rfl, ⟨nd, rfl⟩⟩))
              go_ret
              exact ⟨rfl, pw_below_drewN HB.out _⟩
            | false =>
              have hM' : (x.f1.all amB && cmsB false (l.drop (i + 1))) = R := by rw [← hM]; simp
              clear hM
              have hM : ((x.f1.drop 0).all amB && cmsB false (l.drop (i + 1))) = R := hM'
              have L8 := Lib.hid (by have h := of_decide_eq_false hl8; omega : m ≤ 8)
              go_wp2_with (first | (go_at_call 39; refine (CF.out _).mono ?_; rintro e w' ⟨rfl, ⟨nd, rfl⟩⟩))
              have B1 := Aside0.mk (show Below w.heap.size w (wr.drewN nd) from pw_below_drewN HB.out nd)
              generalize (wr.drewN nd) = w1 at *
              go_loopg [63] m (fun kq v63 wr => ∃ (j : Nat), v63 = .int .i64 (j : Int) ∧ Aside0 (j + kq = m) ∧ Aside0 (((x.f1.drop j).all amB && cmsB false (l.drop (i + 1))) = R) ∧ Aside0 (Below w.heap.size w wr))
              case atStart => exact ⟨0, rfl, ⟨by omega⟩, ⟨hM⟩, B1⟩
              case round =>
                clear hM B1 g0 g1
                obtain ⟨j, rfl, HJ, HM, HBj⟩ := hrel
                have hj := HJ.out
                have g0 := pw_cell_below HBj.out G0.out
                have g1 := pw_cell_below HBj.out G1w.out
                cases gk with
                | zero =>
                  have hltj : decide (j < m) = false := decide_eq_false (by omega)
                  have hM := HM.out
                  rw [List.drop_of_length_le (by have := HMm.out; omega), List.all_nil, Bool.true_and] at hM
                  have hz : decide (i + 1 = 0) = false := decide_eq_false (by omega)
                  have HM2 := Aside0.mk (show cmsB (decide (i + 1 = 0)) (l.drop (i + 1)) = R by rw [hz]; exact hM)
                  clear hj hM hz
                  go_wp2
                  go_roundg k2
                  case measure => omega
                  case rel => exact ⟨i + 1, by simp, ⟨by have := HI.out; omega⟩, HM2, HBj⟩
                | succ k3 =>
                  have hltj : decide (j < m) = true := decide_eq_true (by omega)
                  have hltjn := eq_true (show j < m by omega)
                  obtain ⟨ad2, F2, f2, rfl, hAt, hlc, hk2⟩ := AtA.of_elem HK.out (j : Int) (by omega) (by have := HMm.out; omega)
                  have tj : (j : Int).toNat = j := by omega
                  rw [tj] at hAt
                  have wj' : IntKind.i64.wrap ((j : Int) + 1) = (j : Int) + 1 := by rw [i64_w]; exact wrap_small _ (by have := L8.out; omega) (by have := L8.out; omega)
                  have hstepj := rd_A x.f1 j (by have := HMm.out; omega)
                  have hM := HM.out
                  rw [hstepj, List.all_cons] at hM
                  generalize rd_T57 x.f1 (j : Int) = y at *
                  have CA := Lib.hid (argMay_calls (ad2.add (j * 5)) y F2 f2 wr (hAt.below HBj.out) (Kd.C_below hk2 HBj.out))
                  clear hAt hk2 hstepj HM hj hlc
                  cases hy : amB y with
                  | false =>
                    rw [hy] at CA hM
                    have hRf : R = false := by rw [← hM]; rfl
                    subst hRf
                    clear hM hy
                    go_wp2_with (go_at_call 40; refine CA.out.mono ?_; rintro e w5 ⟨rfl, hb5⟩; have HB5 := Lib.hid (below_step HBj.out hb5); clear hb5)
                    go_ret
                    exact ⟨rfl, HB5.out⟩
                  | true =>
                    rw [hy, Bool.true_and] at hM
                    rw [hy] at CA
                    have HM2 := Aside0.mk hM
                    clear hM hy
                    go_wp2_with (go_at_call 40; refine CA.out.mono ?_; rintro e w5 ⟨rfl, hb5⟩; have HB5 := Aside0.mk (below_step HBj.out hb5); clear hb5)
                    go_roundg k3
                    case measure => omega
                    case rel => exact ⟨j + 1, by simp, ⟨by have := HJ.out; omega⟩, HM2, HB5⟩
end Go.Proofs.YtdghnfmhcnlppaaGreatDoor.Pipe
