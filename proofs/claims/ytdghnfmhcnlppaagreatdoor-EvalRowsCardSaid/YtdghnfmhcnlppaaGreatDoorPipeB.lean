/- Package pipe, walked: paths, whether a word may be. -/
import Derived.Test.YtdghnfmhcnlppaaGreatDoorPipeA
namespace Go.Proofs.YtdghnfmhcnlppaaGreatDoor.Pipe
open Go.RowKit Go.Proofs.YtdghnfmhcnlppaaGreatDoor.Q Go.Proofs.YtdghnfmhcnlppaaGreatDoorW.PrintWords Go.Proofs.YtdghnfmhcnlppaaGreatDoorW.PrintLast Go.Proofs.YtdghnfmhcnlppaaGreatDoorW.PrintMore
set_option linter.unusedSimpArgs false
set_option linter.unusedVariables false

set_option maxHeartbeats 4000000 in
set_option maxRecDepth 100000 in
theorem bad_calls (s : ByteArray) (w : World) : Calls Tryz.prog 89 #[.string s] w fun e w' => e = .returned (.bool (!nameB s)) ∧ Drawn0 w w' := by
  have CN := Lib.hid (name_calls s)
  generalize nameB s = nb at *
  go_enter Tryz.func89, Tryz.ntmps89
  go_wp2_with (go_at_call 41; refine (CN.out _).mono ?_; rintro e w' ⟨rfl, ⟨nd, rfl⟩⟩)
  go_ret
  exact ⟨rfl, ⟨⟨_, rfl⟩⟩⟩

/-- The place of the first one that is no name, or -1. -/
def badI : List ByteArray → Int → Int
  | [], _ => -1
  | x :: xs, i => if nameB x = true then badI xs (i + 1) else i
theorem drop_rd (xs : List ByteArray) (i : Nat) (hi : i < xs.length) : xs.drop i = rdOf ByteArray.empty xs (i : Int) :: xs.drop (i + 1) := by
  rw [List.drop_eq_getElem_cons hi]
  congr 1
  unfold rdOf
  simp [hi]
theorem badI_all : ∀ (xs : List ByteArray) (i : Int), 0 ≤ i → decide (0 ≤ badI xs i) = !xs.all nameB
  | [], i, h => rfl
  | x :: xs, i, h => by
    unfold badI
    cases hm : nameB x
    · simp [hm, h]
    · simp only [if_true]
      rw [badI_all xs (i + 1) (by omega)]
      simp [hm]

set_option maxHeartbeats 8000000 in
set_option maxRecDepth 100000 in
theorem indexS_calls (xs : List ByteArray) (A : Option Addr) (c : Nat) (w : World) (hl : xs.length < 1099511627776) (hA : Kd.C Kd.string w A xs.length xs) :
    Calls Tryz.prog 109 #[.slice A xs.length c, .func (.func 89) #[] #[]] w fun e w' => e = .returned (.int .i64 (badI xs 0)) ∧ Drawn0 w w' := by
  have HA0 := Lib.hid hA
  clear hA
  obtain ⟨R, hR⟩ : ∃ R, badI xs 0 = R := ⟨_, rfl⟩
  rw [hR]
  go_enter Tryz.func109, Tryz.ntmps109
  go_wp2
  go_loopg [8] xs.length (fun kq v8 w' => ∃ (i : Int) (nw : Nat), v8 = .int .i64 i ∧ w' = w.drewN nw ∧ Aside0 (i + kq = xs.length ∧ 0 ≤ i) ∧ Aside0 (badI (xs.drop i.toNat) i = R))
  case atStart => exact ⟨0, 0, rfl, rfl, ⟨by omega, by omega⟩, ⟨hR⟩⟩
  case round =>
    obtain ⟨i, nw, rfl, rfl, HI, HM⟩ := hrel
    obtain ⟨hi1, hi0⟩ := HI.out
    cases gk with
    | zero =>
      have hlt : decide (i < (xs.length : Int)) = false := decide_eq_false (by omega)
      have e := HM.out
      rw [List.drop_of_length_le (by omega)] at e
      have e1 : R = -1 := e.symm
      clear e hi1 hi0 hR
      subst e1
      go_wp2
      go_ret
      exact ⟨rfl, ⟨⟨_, rfl⟩⟩⟩
    | succ k2 =>
      have hlt : decide (i < (xs.length : Int)) = true := decide_eq_true (by omega)
      have hlt' : i < (xs.length : Int) := by omega
      obtain ⟨ad, cs, rfl, hcl, hcK, hcc⟩ := Kd.C_get HA0.out ByteArray.empty i hi0 hlt'
      have q0 := eq_true hi0
      have q1 := eq_true hlt'
      have en : (i + 1).toNat = i.toNat + 1 := by omega
      have wi : wrap64 (i + 1) = i + 1 := wrap_small _ (by omega) (by omega)
      have wi' : IntKind.i64.wrap (i + 1) = i + 1 := by rw [i64_w]; exact wi
      have hcs : cs = [.string (rdOf ByteArray.empty xs i)] := hcK
      subst hcs
      have g0 : w.cell? (ad.add i.toNat) = some (.string (rdOf ByteArray.empty xs i)) := by
        have := hcc 0 _ rfl
        have hz : i.toNat * Kd.string.sz + 0 = i.toNat := by show i.toNat * 1 + 0 = _; omega
        rwa [hz] at this
      have hstep := drop_rd xs i.toNat (by omega)
      have ei : ((i.toNat : Nat) : Int) = i := by omega
      rw [ei] at hstep
      have hM := HM.out
      rw [hstep] at hM
      have CS := Lib.hid (bad_calls (rdOf ByteArray.empty xs i))
      have HI2 := Aside0.mk (show i + 1 + k2 = xs.length ∧ 0 ≤ i + 1 from ⟨by omega, by omega⟩)
      clear hcc hcK hcl hstep HM hR
      simp only [badI] at hM
      generalize nameB (rdOf ByteArray.empty xs i) = mb at CS hM
      cases mb
      · rw [if_neg (by decide)] at hM
        subst hM
        go_wp2_with (go_at_call 89; refine (CS.out _).mono ?_; rintro e w' ⟨rfl, ⟨nd, rfl⟩⟩)
        go_ret
        exact ⟨rfl, ⟨⟨_, rfl⟩⟩⟩
      · rw [if_pos rfl] at hM
        have HM2 := Aside0.mk (show badI (xs.drop (i + 1).toNat) (i + 1) = R by rw [en]; exact hM)
        clear hM
        go_wp2_with (go_at_call 89; refine (CS.out _).mono ?_; rintro e w' ⟨rfl, ⟨nd, rfl⟩⟩)
        go_roundg k2
        case measure => omega
        case rel => exact ⟨i + 1, _, rfl, rfl, HI2, HM2⟩
set_option maxHeartbeats 4000000 in
set_option maxRecDepth 100000 in
theorem containsS_calls (xs : List ByteArray) (A : Option Addr) (c : Nat) (w : World) (hl : xs.length < 1099511627776) (hA : Kd.C Kd.string w A xs.length xs) :
    Calls Tryz.prog 90 #[.slice A xs.length c, .func (.func 89) #[] #[]] w fun e w' => e = .returned (.bool (!xs.all nameB)) ∧ Drawn0 w w' := by
  have CI := Lib.hid (indexS_calls xs A c w hl hA)
  have e := badI_all xs 0 (by omega)
  generalize badI xs 0 = bi at CI e
  clear hA hl
  go_enter Tryz.func90, Tryz.ntmps90
  go_wp2_with (go_at_call 109; refine CI.out.mono ?_; rintro e w' ⟨rfl, ⟨nd, rfl⟩⟩)
  go_ret
  exact ⟨rfl, ⟨⟨_, rfl⟩⟩⟩
set_option maxHeartbeats 4000000 in
set_option maxRecDepth 100000 in
theorem path_calls (xs : List ByteArray) (A : Option Addr) (c : Nat) (w : World) (hA : Kd.C Kd.string w A xs.length xs) :
    Calls Tryz.prog 70 #[.slice A xs.length c] w fun e w' => e = .returned (.bool (pathB xs)) ∧ Drawn0 w w' := by
  have CI := Lib.hid (fun hl => containsS_calls xs A c w hl hA)
  unfold pathB
  generalize xs.all nameB = b at *
  clear hA
  by_cases h8 : xs.length ≤ 8
  · have t8 : decide ((xs.length : Int) ≤ 8) = true := decide_eq_true (by omega)
    have t9 : decide (xs.length ≤ 8) = true := decide_eq_true h8
    rw [t9]
    have CJ := Lib.hid (CI.out (by omega))
    clear h8 CI
    go_enter Tryz.func70, Tryz.ntmps70
    go_wp2_with (go_at_call 90; refine CJ.out.mono ?_; rintro e w' ⟨rfl, ⟨nd, rfl⟩⟩)
    go_ret
    exact ⟨by simp, ⟨⟨_, rfl⟩⟩⟩
  · have t8 : decide ((xs.length : Int) ≤ 8) = false := decide_eq_false (by omega)
    have t9 : decide (xs.length ≤ 8) = false := decide_eq_false h8
    rw [t9]
    clear h8 CI
    go_enter Tryz.func70, Tryz.ntmps70
    go_wp2
    go_ret
    exact ⟨rfl, Drawn0.refl _⟩

/-! ### a word -/
/-- What the walk asks of a kind. -/
theorem kinds_of (k : Int) (P : Prop)
    (h : ∀ b0 b1 b2 b3 b4 b5 : Bool, (k == 0) = b0 → (k == 1) = b1 → (k == 2) = b2 → (k == 3) = b3 → (k == 4) = b4 → (k == 5) = b5 →
      (b0, b1, b2, b3, b4, b5) ∈ [(true, false, false, false, false, false), (false, true, false, false, false, false), (false, false, true, false, false, false), (false, false, false, true, false, false),
        (false, false, false, false, true, false), (false, false, false, false, false, true), (false, false, false, false, false, false)] → P) : P := by
  refine h _ _ _ _ _ _ rfl rfl rfl rfl rfl rfl ?_
  by_cases h0 : k = 0
  · subst h0; decide
  by_cases h1 : k = 1
  · subst h1; decide
  by_cases h2 : k = 2
  · subst h2; decide
  by_cases h3 : k = 3
  · subst h3; decide
  by_cases h4 : k = 4
  · subst h4; decide
  by_cases h5 : k = 5
  · subst h5; decide
  rw [beq_eq_false_iff_ne.2 h0, beq_eq_false_iff_ne.2 h1, beq_eq_false_iff_ne.2 h2, beq_eq_false_iff_ne.2 h3, beq_eq_false_iff_ne.2 h4, beq_eq_false_iff_ne.2 h5]
  decide
end Go.Proofs.YtdghnfmhcnlppaaGreatDoor.Pipe
