/- Package pipe, walked: paths, whether a word may be. -/
import Derived.Test.YthaapadjlknieaaPipeA
namespace Go.Proofs.Ythaapadjlknieaa.Pipe
open Go.RowKit Go.Proofs.Ythaapadjlknieaa.Q Go.Proofs.YthaapadjlknieaaW.PrintWords Go.Proofs.YthaapadjlknieaaW.PrintLast Go.Proofs.YthaapadjlknieaaW.PrintMore
set_option linter.unusedSimpArgs false
set_option linter.unusedVariables false

set_option maxHeartbeats 4000000 in
set_option maxRecDepth 100000 in
theorem bad_calls (s : ByteArray) (w : World) : Calls Try.prog 38 #[.string s] w fun e w' => e = .returned (.bool (!nameB s)) ∧ Drawn0 w w' := by
  have CN := Lib.hid (name_calls s)
  generalize nameB s = nb at *
  go_enter Try.func38, Try.ntmps38
  go_wp2_with (go_at_call 27; refine (CN.out _).mono ?_; rintro e w' ⟨rfl, ⟨nd, rfl⟩⟩)
  go_ret
  exact ⟨rfl, ⟨⟨_, rfl⟩⟩⟩

/-- The place of the first one that is no name, or -1. -/
def badI : List ByteArray → Int → Int
  | [], _ => -1
  | x :: xs, i => if nameB x = true then badI xs (i + 1) else i
theorem drop_rd (xs : List ByteArray) (i : Nat) (hi : i < xs.length) : xs.drop i = rdOf ByteArray.empty xs (i : Int) :: xs.drop (i + 1) := by
  rw [List.drop_eq_getElem_cons hi]
  congr 1
  unfold rdOf
  simp [hi]
theorem badI_all : ∀ (xs : List ByteArray) (i : Int), 0 ≤ i → decide (0 ≤ badI xs i) = !xs.all nameB
  | [], i, h => rfl
  | x :: xs, i, h => by
    unfold badI
    cases hm : nameB x
    · simp [hm, h]
    · simp only [if_true]
      rw [badI_all xs (i + 1) (by omega)]
      simp [hm]

set_option maxHeartbeats 8000000 in
set_option maxRecDepth 100000 in
theorem indexS_calls (xs : List ByteArray) (A : Option Addr) (c : Nat) (w : World) (hl : xs.length < 1099511627776) (hA : Kd.C Kd.string w A xs.length xs) :
    Calls Try.prog 45 #[.slice A xs.length c, .func (.func 38) #[] #[]] w fun e w' => e = .returned (.int .i64 (badI xs 0)) ∧ Drawn0 w w' := by
  have HA0 := Lib.hid hA
  clear hA
  obtain ⟨R, hR⟩ : ∃ R, badI xs 0 = R := ⟨_, rfl⟩
  rw [hR]
  go_enter Try.func45, Try.ntmps45
  go_wp2
  go_loopg [8] xs.length (fun kq v8 w' => ∃ (i : Int) (nw : Nat), v8 = .int .i64 i ∧ w' = w.drewN nw ∧ Aside0 (i + kq = xs.length ∧ 0 ≤ i) ∧ Aside0 (badI (xs.drop i.toNat) i = R))
  case atStart => exact ⟨0, 0, rfl, rfl, ⟨by omega, by omega⟩, ⟨hR⟩⟩
  case round =>
    obtain ⟨i, nw, rfl, rfl, HI, HM⟩ := hrel
    obtain ⟨hi1, hi0⟩ := HI.out
    cases gk with
    | zero =>
      have hlt : decide (i < (xs.length : Int)) = false := decide_eq_false (by omega)
      have e := HM.out
      rw [List.drop_of_length_le (by omega)] at e
      have e1 : R = -1 := e.symm
      clear e hi1 hi0 hR
      subst e1
      go_wp2
      go_ret
      exact ⟨rfl, ⟨⟨_, rfl⟩⟩⟩
    | succ k2 =>
      have hlt : decide (i < (xs.length : Int)) = true := decide_eq_true (by omega)
      have hlt' : i < (xs.length : Int) := by omega
      obtain ⟨ad, cs, rfl, hcl, hcK, hcc⟩ := Kd.C_get HA0.out ByteArray.empty i hi0 hlt'
      have q0 := eq_true hi0
      have q1 := eq_true hlt'
      have en : (i + 1).toNat = i.toNat + 1 := by omega
      have wi : wrap64 (i + 1) = i + 1 := wrap_small _ (by omega) (by omega)
      have wi' : IntKind.i64.wrap (i + 1) = i + 1 := by rw [i64_w]; exact wi
      have hcs : cs = [.string (rdOf ByteArray.empty xs i)] := hcK
      subst hcs
      have g0 : w.cell? (ad.add i.toNat) = some (.string (rdOf ByteArray.empty xs i)) := by
        have := hcc 0 _ rfl
        have hz : i.toNat * Kd.string.sz + 0 = i.toNat := by show i.toNat * 1 + 0 = _; omega
        rwa [hz] at this
      have hstep := drop_rd xs i.toNat (by omega)
      have ei : ((i.toNat : Nat) : Int) = i := by omega
      rw [ei] at hstep
      have hM := HM.out
      rw [hstep] at hM
      have CS := Lib.hid (bad_calls (rdOf ByteArray.empty xs i))
      have HI2 := Aside0.mk (show i + 1 + k2 = xs.length ∧ 0 ≤ i + 1 from ⟨by omega, by omega⟩)
      clear hcc hcK hcl hstep HM hR
      simp only [badI] at hM
      generalize nameB (rdOf ByteArray.empty xs i) = mb at CS hM
      cases mb
      · rw [if_neg (by decide)] at hM
        subst hM
        go_wp2_with (go_at_call 38; refine (CS.out _).mono ?_; rintro e w' ⟨rfl, ⟨nd, rfl⟩⟩)
        go_ret
        exact ⟨rfl, ⟨⟨_, rfl⟩⟩⟩
      · rw [if_pos rfl] at hM
        have HM2 := Aside0.mk (show badI (xs.drop (i + 1).toNat) (i + 1) = R by rw [en]; exact hM)
        clear hM
        go_wp2_with (go_at_call 38; refine (CS.out _).mono ?_; rintro e w' ⟨rfl, ⟨nd, rfl⟩⟩)
        go_roundg k2
        case measure => omega
        case rel => exact ⟨i + 1, _, rfl, rfl, HI2, HM2⟩
set_option maxHeartbeats 4000000 in
set_option maxRecDepth 100000 in
theorem containsS_calls (xs : List ByteArray) (A : Option Addr) (c : Nat) (w : World) (hl : xs.length < 1099511627776) (hA : Kd.C Kd.string w A xs.length xs) :
    Calls Try.prog 39 #[.slice A xs.length c, .func (.func 38) #[] #[]] w fun e w' => e = .returned (.bool (!xs.all nameB)) ∧ Drawn0 w w' := by
  have CI := Lib.hid (indexS_calls xs A c w hl hA)
  have e := badI_all xs 0 (by omega)
  generalize badI xs 0 = bi at CI e
  clear hA hl
  go_enter Try.func39, Try.ntmps39
  go_wp2_with (go_at_call 45; refine CI.out.mono ?_; rintro e w' ⟨rfl, ⟨nd, rfl⟩⟩)
  go_ret
  exact ⟨rfl, ⟨⟨_, rfl⟩⟩⟩
set_option maxHeartbeats 4000000 in
set_option maxRecDepth 100000 in
theorem path_calls (xs : List ByteArray) (A : Option Addr) (c : Nat) (w : World) (hA : Kd.C Kd.string w A xs.length xs) :
    Calls Try.prog 28 #[.slice A xs.length c] w fun e w' => e = .returned (.bool (pathB xs)) ∧ Drawn0 w w' := by
  have CI := Lib.hid (fun hl => containsS_calls xs A c w hl hA)
  unfold pathB
  generalize xs.all nameB = b at *
  clear hA
  by_cases h8 : xs.length ≤ 8
  · have t8 : decide ((xs.length : Int) ≤ 8) = true := decide_eq_true (by omega)
    have t9 : decide (xs.length ≤ 8) = true := decide_eq_true h8
    rw [t9]
    have CJ := Lib.hid (CI.out (by omega))
    clear h8 CI
    go_enter Try.func28, Try.ntmps28
    go_wp2_with (go_at_call 39; refine CJ.out.mono ?_; rintro e w' ⟨rfl, ⟨nd, rfl⟩⟩)
    go_ret
    exact ⟨by simp, ⟨⟨_, rfl⟩⟩⟩
  · have t8 : decide ((xs.length : Int) ≤ 8) = false := decide_eq_false (by omega)
    have t9 : decide (xs.length ≤ 8) = false := decide_eq_false h8
    rw [t9]
    clear h8 CI
    go_enter Try.func28, Try.ntmps28
    go_wp2
    go_ret
    exact ⟨rfl, Drawn0.refl _⟩

/-! ### a word -/
/-- A word's four cells lie at an address. -/
structure AtW (w : World) (p : Addr) (x : Wd) (A2 : Option Addr) (c2 : Nat) : Prop where
  g0 : w.cell? p = some (.int .i64 x.f0)
  g1 : w.cell? ⟨p.block, p.off + 1, none⟩ = some (.string x.f1)
  g2 : w.cell? ⟨p.block, p.off + 2, none⟩ = some (.slice A2 x.f2.length c2)
  g3 : w.cell? ⟨p.block, p.off + 3, none⟩ = some (.int .i64 x.f3)
theorem AtW.below {w w1 : World} {p : Addr} {x : Wd} {A2 : Option Addr} {c2 : Nat} (h : AtW w p x A2 c2) (hb : Below w.heap.size w w1) : AtW w1 p x A2 c2 :=
  ⟨pw_cell_below hb h.g0, pw_cell_below hb h.g1, pw_cell_below hb h.g2, pw_cell_below hb h.g3⟩
/-- What the walk asks of a kind. -/
theorem kinds_of (k : Int) (P : Prop)
    (h : ∀ b0 b1 b2 b3 b4 b5 : Bool, (k == 0) = b0 → (k == 1) = b1 → (k == 2) = b2 → (k == 3) = b3 → (k == 4) = b4 → (k == 5) = b5 →
      (b0, b1, b2, b3, b4, b5) ∈ [(true, false, false, false, false, false), (false, true, false, false, false, false), (false, false, true, false, false, false), (false, false, false, true, false, false),
        (false, false, false, false, true, false), (false, false, false, false, false, true), (false, false, false, false, false, false)] → P) : P := by
  refine h _ _ _ _ _ _ rfl rfl rfl rfl rfl rfl ?_
  by_cases h0 : k = 0
  · subst h0; decide
  by_cases h1 : k = 1
  · subst h1; decide
  by_cases h2 : k = 2
  · subst h2; decide
  by_cases h3 : k = 3
  · subst h3; decide
  by_cases h4 : k = 4
  · subst h4; decide
  by_cases h5 : k = 5
  · subst h5; decide
  rw [beq_eq_false_iff_ne.2 h0, beq_eq_false_iff_ne.2 h1, beq_eq_false_iff_ne.2 h2, beq_eq_false_iff_ne.2 h3, beq_eq_false_iff_ne.2 h4, beq_eq_false_iff_ne.2 h5]
  decide
set_option maxHeartbeats 8000000 in
set_option maxRecDepth 100000 in
theorem wordMay_calls (p : Addr) (x : Wd) (A2 : Option Addr) (c2 : Nat) (w : World) (h : AtW w p x A2 c2) (hr : Kd.C Kd.string w A2 x.f2.length x.f2) :
    Calls Try.prog 16 #[.pointer (some p)] w fun e w' => e = .returned (.bool (wordB x)) ∧ Drawn0 w w' := by
  have CN := Lib.hid (name_calls x.f1)
  have CP := Lib.hid (fun m => path_calls x.f2 A2 c2 (w.drewN m) (Kd.C_drewN hr m))
  have CP0 := Lib.hid (path_calls x.f2 A2 c2 w hr)
  have CI := Lib.hid (int_calls x.f3)
  obtain ⟨g0, g1, g2, g3⟩ := h
  clear hr
  unfold wordB namedB
  refine kinds_of x.f0 _ fun b0 b1 b2 b3 b4 b5 e0 e1 e2 e3 e4 e5 hm => ?_
  have n3 : (x.f0 != 3) = !b3 := by rw [← e3]; rfl
  have n4 : (x.f0 != 4) = !b4 := by rw [← e4]; rfl
  have n1 : (x.f0 != 1) = !b1 := by rw [← e1]; rfl
  have n2 : (x.f0 != 2) = !b2 := by rw [← e2]; rfl
  rw [n1, n2, n3, n4, e0, e2]
  have l2 : x.f2.isEmpty = decide (x.f2.length = 0) := by cases x.f2 <;> rfl
  have l1 : x.f1.toList.length = x.f1.size := toList_length _
  rw [l1, l2]
  generalize nameB x.f1 = nb at *
  generalize pathB x.f2 = pb at *
  generalize intB x.f3 = ib at *
  generalize x.f0 = k at *
  generalize x.f1 = s at *
  generalize x.f2.length = n at *
  generalize x.f3 = i at *
  clear l1 l2
  obtain ⟨z3, hz3⟩ : ∃ z, (i != 0) = z := ⟨_, rfl⟩
  obtain ⟨z1, hz1⟩ : ∃ z, (s.toList != ([] : List UInt8)) = z := ⟨_, rfl⟩
  have hz1' : (s.toList != []) = z1 := hz1
  obtain ⟨z2, hz2⟩ : ∃ z, decide ((n : Int) > 0) = z := ⟨_, rfl⟩
  have hz2' : decide (n = 0) = !z2 := by rw [← hz2]; by_cases c : n = 0 <;> simp [c] <;> omega
  have hz2'' : decide ((0 : Int) < (n : Int)) = z2 := hz2
  obtain ⟨tb, htb⟩ : ∃ z, decide ((s.size : Int) ≤ 65536) = z := ⟨_, rfl⟩
  have htb' : decide (s.size ≤ 65536) = tb := by rw [← htb]; exact decide_eq_decide.2 (by omega)
  rw [hz1', hz2', hz3, htb']
  clear hz2' hz1' htb'
  (simp only [List.mem_cons, List.not_mem_nil, or_false, Prod.mk.injEq] at hm; rcases hm with ⟨rfl, rfl, rfl, rfl, rfl, rfl⟩ | ⟨rfl, rfl, rfl, rfl, rfl, rfl⟩ | ⟨rfl, rfl, rfl, rfl, rfl, rfl⟩ | ⟨rfl, rfl, rfl, rfl, rfl, rfl⟩ | ⟨rfl, rfl, rfl, rfl, rfl, rfl⟩ | ⟨rfl, rfl, rfl, rfl, rfl, rfl⟩ | ⟨rfl, rfl, rfl, rfl, rfl, rfl⟩)
  all_goals
    go_enter Try.func16, Try.ntmps16
    go_wp2_with (first | (go_at_call 27; refine (CN.out _).mono ?_; rintro e w' ⟨rfl, ⟨nd, rfl⟩⟩) | (go_at_call 28; (first | refine CP0.out.mono ?_ | refine (CP.out _).mono ?_); rintro e w' ⟨rfl, ⟨nd2, rfl⟩⟩) | (go_at_call 29; refine (CI.out _).mono ?_; rintro e w' ⟨rfl, ⟨nd3, rfl⟩⟩))
    all_goals (go_ret; exact ⟨by first | (simp [*]; done) | (cases z1 <;> cases z2 <;> cases z3 <;> cases nb <;> cases pb <;> cases ib <;> cases tb <;> first | rfl | (exfalso; simp only [decide_eq_false_iff_not, decide_eq_true_eq, gt_iff_lt, bne_eq_false_iff_eq, bne_iff_ne, ne_eq] at hz1 hz2 hz3 htb; first | omega | contradiction)), by first | exact Drawn0.refl _ | exact ⟨⟨_, rfl⟩⟩⟩)
end Go.Proofs.Ythaapadjlknieaa.Pipe
