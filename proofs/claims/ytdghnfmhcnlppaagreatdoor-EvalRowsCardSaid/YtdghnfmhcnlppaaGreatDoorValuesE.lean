/- Package value, walked: the functions that look at a value behind a pointer (plain, own, Truth), and May's walk over a tree. · Package value, walked: own, Truth, and may over a tree. · Package value, walked: may over a tree. · Package value, walked: may over a tree, the step. · Package value, walked: May, of a value handed in. -/
import Derived.Test.YtdghnfmhcnlppaaGreatDoorQ0
import Derived.Test.YtdghnfmhcnlppaaGreatDoorRealText
import Derived.WalkLawsBesides
import Derived.Deep.QuietTactic
import Derived.BigQuiet
import Derived.Test.YtdghnfmhcnlppaaGreatDoorK1
import Derived.Laws.Cover1
namespace Go.Proofs.YtdghnfmhcnlppaaGreatDoor.Values
open Go.RowKit Go.Proofs.YtdghnfmhcnlppaaGreatDoor.Q Go.Proofs.YtdghnfmhcnlppaaGreatDoor.Real Go.Proofs.YtdghnfmhcnlppaaGreatDoor.RealPure Go.Proofs.YtdghnfmhcnlppaaGreatDoorW.PrintWords Go.Proofs.YtdghnfmhcnlppaaGreatDoorW.PrintLast Go.Proofs.YtdghnfmhcnlppaaGreatDoorW.PrintMore
set_option linter.unusedSimpArgs false
set_option linter.unusedVariables false

abbrev V := S27

/-- A value's six cells lie at an address. -/
structure At (w : World) (p : Addr) (x : V) (A4 : Option Addr) (c4 : Nat) (A5 : Option Addr) (c5 : Nat) : Prop where
  g0 : w.cell? p = some (.int .i64 x.f0)
  g1 : w.cell? ⟨p.block, p.off + 1, none⟩ = some (.int .i64 x.f1)
  g2 : w.cell? ⟨p.block, p.off + 2, none⟩ = some (.int .u64 x.f2)
  g3 : w.cell? ⟨p.block, p.off + 3, none⟩ = some (.string x.f3)
  g4 : w.cell? ⟨p.block, p.off + 4, none⟩ = some (.slice A4 x.f4.length c4)
  g5 : w.cell? ⟨p.block, p.off + 5, none⟩ = some (.slice A5 x.f5.length c5)

def plainB (x : V) : Bool :=
  ((x.f0 == 1 || x.f0 == 2) || x.f1 == 0) && (x.f0 == 3 || x.f2 == 0) && (x.f0 == 4 || x.f3.toList == []) && ((x.f0 == 5 || x.f0 == 6) || (x.f4.length : Int) == 0) && (x.f0 == 6 || (x.f5.length : Int) == 0)

/-- One of the (simp only [List.mem_cons, List.not_mem_nil, or_false, Prod.mk.injEq] at kinds; rcases kinds with ⟨rfl, rfl, rfl, rfl, rfl, rfl, rfl⟩ | ⟨rfl, rfl, rfl, rfl, rfl, rfl, rfl⟩ | ⟨rfl, rfl, rfl, rfl, rfl, rfl, rfl⟩ | ⟨rfl, rfl, rfl, rfl, rfl, rfl, rfl⟩ | ⟨rfl, rfl, rfl, rfl, rfl, rfl, rfl⟩ | ⟨rfl, rfl, rfl, rfl, rfl, rfl, rfl⟩ | ⟨rfl, rfl, rfl, rfl, rfl, rfl, rfl⟩ | ⟨rfl, rfl, rfl, rfl, rfl, rfl, rfl⟩), or none: what the walk asks of it. -/
theorem kinds_of (k : Int) (P : Prop)
    (h : ∀ b0 b1 b2 b3 b4 b5 b6 : Bool, (k == 0) = b0 → (k == 1) = b1 → (k == 2) = b2 → (k == 3) = b3 → (k == 4) = b4 → (k == 5) = b5 → (k == 6) = b6 →
      (b0, b1, b2, b3, b4, b5, b6) ∈ [(true, false, false, false, false, false, false), (false, true, false, false, false, false, false), (false, false, true, false, false, false, false), (false, false, false, true, false, false, false),
        (false, false, false, false, true, false, false), (false, false, false, false, false, true, false), (false, false, false, false, false, false, true), (false, false, false, false, false, false, false)] → P) : P := by
  refine h _ _ _ _ _ _ _ rfl rfl rfl rfl rfl rfl rfl ?_
  by_cases h0 : k = 0
  · subst h0; decide
  by_cases h1 : k = 1
  · subst h1; decide
  by_cases h2 : k = 2
  · subst h2; decide
  by_cases h3 : k = 3
  · subst h3; decide
  by_cases h4 : k = 4
  · subst h4; decide
  by_cases h5 : k = 5
  · subst h5; decide
  by_cases h6 : k = 6
  · subst h6; decide
  rw [beq_eq_false_iff_ne.2 h0, beq_eq_false_iff_ne.2 h1, beq_eq_false_iff_ne.2 h2, beq_eq_false_iff_ne.2 h3, beq_eq_false_iff_ne.2 h4, beq_eq_false_iff_ne.2 h5, beq_eq_false_iff_ne.2 h6]
  decide


set_option maxHeartbeats 4000000 in
set_option maxRecDepth 100000 in
theorem plain_calls (p : Addr) (x : V) (A4 : Option Addr) (c4 : Nat) (A5 : Option Addr) (c5 : Nat) (w : World) (h : At w p x A4 c4 A5 c5) :
    Calls Tryz.prog 96 #[.pointer (some p)] w fun e w' => e = .returned (.bool (plainB x)) ∧ w' = w := by
  obtain ⟨g0, g1, g2, g3, g4, g5⟩ := h
  unfold plainB
  refine kinds_of x.f0 _ fun b0 b1 b2 b3 b4 b5 b6 e0 e1 e2 e3 e4 e5 e6 hm => ?_
  rw [e1, e2, e3, e4, e5, e6]
  generalize x.f0 = k at *
  generalize x.f1 = i at *
  generalize x.f2 = j at *
  generalize x.f3 = s at *
  generalize x.f4.length = n4 at *
  generalize x.f5.length = n5 at *
  (simp only [List.mem_cons, List.not_mem_nil, or_false, Prod.mk.injEq] at hm; rcases hm with ⟨rfl, rfl, rfl, rfl, rfl, rfl, rfl⟩ | ⟨rfl, rfl, rfl, rfl, rfl, rfl, rfl⟩ | ⟨rfl, rfl, rfl, rfl, rfl, rfl, rfl⟩ | ⟨rfl, rfl, rfl, rfl, rfl, rfl, rfl⟩ | ⟨rfl, rfl, rfl, rfl, rfl, rfl, rfl⟩ | ⟨rfl, rfl, rfl, rfl, rfl, rfl, rfl⟩ | ⟨rfl, rfl, rfl, rfl, rfl, rfl, rfl⟩ | ⟨rfl, rfl, rfl, rfl, rfl, rfl, rfl⟩)
  all_goals
    go_enter Tryz.func96, Tryz.ntmps96
    go_wp2
    all_goals (go_ret; exact ⟨by simp [*], rfl⟩)

/-! ### keys -/
def okAt (l : List ByteArray) (i : Nat) : Bool :=
  !((l.getD i ByteArray.empty).toList == []) && decide ((l.getD i ByteArray.empty).size ≤ 32) && (i == 0 || Op.bytesLess (l.getD (i - 1) ByteArray.empty).toList (l.getD i ByteArray.empty).toList)
def keysFrom (l : List ByteArray) : Nat → Nat → Bool
  | 0, _ => true
  | m + 1, i => okAt l i && keysFrom l m (i + 1)
def keysB (l : List ByteArray) : Bool := keysFrom l l.length 0

theorem wrap_small (x : Int) (h0 : -9223372036854775808 ≤ x) (h1 : x ≤ 9223372036854775807) : wrap64 x = x := by
  unfold wrap64
  omega

theorem keys_total (l : List ByteArray) (hl : l.length < 1099511627776) : ∀ m i, i + m = l.length → K.value_keys.l0 (m + 1) l l (l.length : Int) (i : Int) = some (keysFrom l m i)
  | 0, i, h => by
    unfold K.value_keys.l0
    rw [if_neg (by omega)]
    rfl
  | m + 1, i, h => by
    have ih := keys_total l hl m (i + 1) (by omega)
    unfold K.value_keys.l0
    rw [if_pos (by omega), if_pos (by omega), if_pos (by omega)]
    show _ = some (okAt l i && keysFrom l m (i + 1))
    have e1 : rdOf ByteArray.empty l (i : Int) = l.getD i ByteArray.empty := rfl
    have e2 : wrap64 ((i : Int) + 1) = ((i + 1 : Nat) : Int) := by rw [wrap_small _ (by omega) (by omega)]; rfl
    rw [e1, e2, ih]
    unfold okAt
    by_cases c1 : (l.getD i ByteArray.empty).toList = []
    · rw [if_pos c1]; rw [c1]; rfl
    rw [if_neg c1]
    by_cases c2 : ((l.getD i ByteArray.empty).size : Int) > 32
    · rw [if_pos c2]
      have : decide ((l.getD i ByteArray.empty).size ≤ 32) = false := decide_eq_false (by omega)
      rw [this]; simp
    rw [if_neg c2]
    have c2' : decide ((l.getD i ByteArray.empty).size ≤ 32) = true := decide_eq_true (by omega)
    have c1' : ((l.getD i ByteArray.empty).toList == []) = false := by simpa using c1
    rw [c1', c2']
    by_cases c3 : (i : Int) > 0
    · rw [if_pos c3]
      have e3 : wrap64 ((i : Int) - 1) = ((i - 1 : Nat) : Int) := by rw [wrap_small _ (by omega) (by omega)]; omega
      rw [e3, if_pos (by omega), if_pos (by omega)]
      have e4 : rdOf ByteArray.empty l ((i - 1 : Nat) : Int) = l.getD (i - 1) ByteArray.empty := rfl
      have e5 : (i == 0) = false := beq_eq_false_iff_ne.2 (by omega)
      rw [e4, e5]
      cases Op.bytesLess (l.getD (i - 1) ByteArray.empty).toList (l.getD i ByteArray.empty).toList <;> rfl
    · rw [if_neg c3]
      have e5 : (i == 0) = true := beq_iff_eq.2 (by omega)
      rw [e5]; rfl

theorem keys_calls (A : Option Addr) (c : Nat) (l : List ByteArray) (w : World) (hr : Kd.C Kd.string w A l.length l) (hc : l.length ≤ c) (hl : l.length < 1099511627776) :
    Calls Tryz.prog 97 #[.slice A l.length c] w fun e w' => e = .returned (.bool (keysB l)) ∧ Drawn0 w w' :=
  K.value_keys.calls (l.length + 1) A c l (keysB l) w hr hc (keys_total l hl l.length 0 (by omega))

/-! ### own -/
def intB (i : Int) : Bool := decide (-9007199254740991 ≤ i) && decide (i ≤ 9007199254740991)
def ownB (x : V) : Bool :=
  plainB x && decide (x.f4.length ≤ 64) &&
    ((x.f0 == 0 || x.f0 == 3 || x.f0 == 5) || (x.f0 == 1 && (x.f1 == 0 || x.f1 == 1)) || (x.f0 == 2 && intB x.f1) || (x.f0 == 4 && decide (x.f3.size ≤ 65536)) ||
      (x.f0 == 6 && (x.f5.length == x.f4.length && keysB x.f5)))

theorem int_calls (i : Int) (w : World) : Calls Tryz.prog 71 #[.int .i64 i] w fun e w' => e = .returned (.bool (intB i)) ∧ w' = w := by
  unfold intB
  go_enter Tryz.func71, Tryz.ntmps71
  go_wp2
  all_goals (go_ret; exact ⟨by simp [*] <;> omega, rfl⟩)
end Go.Proofs.YtdghnfmhcnlppaaGreatDoor.Values
namespace Go.Proofs.YtdghnfmhcnlppaaGreatDoor.Values
open Go.RowKit Go.Proofs.YtdghnfmhcnlppaaGreatDoor.Q Go.Proofs.YtdghnfmhcnlppaaGreatDoor.Real Go.Proofs.YtdghnfmhcnlppaaGreatDoor.RealPure Go.Proofs.YtdghnfmhcnlppaaGreatDoorW.PrintWords Go.Proofs.YtdghnfmhcnlppaaGreatDoorW.PrintLast Go.Proofs.YtdghnfmhcnlppaaGreatDoorW.PrintMore
set_option linter.unusedSimpArgs false
set_option linter.unusedVariables false

set_option maxHeartbeats 4000000 in
set_option maxRecDepth 100000 in
theorem own_calls (p : Addr) (x : V) (A4 : Option Addr) (c4 : Nat) (A5 : Option Addr) (c5 : Nat) (w : World) (h : At w p x A4 c4 A5 c5) (hr5 : Kd.C Kd.string w A5 x.f5.length x.f5) (hc5 : x.f5.length ≤ c5) :
    Calls Tryz.prog 80 #[.pointer (some p)] w fun e w' => e = .returned (.bool (ownB x)) ∧ Drawn0 w w' := by
  have CP := Lib.hid (plain_calls p x A4 c4 A5 c5 w h)
  have CK := Lib.hid (fun m => keys_calls A5 c5 x.f5 (w.drewN m) (Kd.C_drewN hr5 m) hc5)
  obtain ⟨g0, g1, g2, g3, g4, g5⟩ := h
  clear hr5 hc5
  unfold ownB
  refine kinds_of x.f0 _ fun b0 b1 b2 b3 b4 b5 b6 e0 e1 e2 e3 e4 e5 e6 hm => ?_
  rw [e0, e1, e2, e3, e4, e5, e6]
  generalize plainB x = pb at *
  generalize x.f5 = l5 at *
  generalize x.f0 = k at *
  generalize x.f1 = i at *
  generalize x.f2 = j at *
  generalize x.f3 = s at *
  generalize x.f4.length = n4 at *
  generalize keysB l5 = kb at *
  have CI := Lib.hid (int_calls i)
  generalize intB i = ib at *
  cases pb
  · go_enter Tryz.func80, Tryz.ntmps80
    go_wp2_with (go_at_call 96; refine CP.out.mono ?_; rintro e w' ⟨rfl, rfl⟩)
    go_ret
    exact ⟨rfl, Drawn0.refl _⟩
  by_cases h64 : n4 ≤ 64
  · have hn : ¬ 64 < n4 := by omega
    have hnI : ¬ (64 : Int) < (n4 : Int) := by omega
    by_cases hln : l5.length = n4
    · have q0 : ((l5.length : Int) == (n4 : Int)) = true := beq_iff_eq.2 (by omega)
      have q1 : (l5.length == n4) = true := beq_iff_eq.2 hln
      have hlt : l5.length < 1099511627776 := by omega
      have CK' := Lib.hid (fun m => CK.out m hlt)
      clear CK hln hlt
      (simp only [List.mem_cons, List.not_mem_nil, or_false, Prod.mk.injEq] at hm; rcases hm with ⟨rfl, rfl, rfl, rfl, rfl, rfl, rfl⟩ | ⟨rfl, rfl, rfl, rfl, rfl, rfl, rfl⟩ | ⟨rfl, rfl, rfl, rfl, rfl, rfl, rfl⟩ | ⟨rfl, rfl, rfl, rfl, rfl, rfl, rfl⟩ | ⟨rfl, rfl, rfl, rfl, rfl, rfl, rfl⟩ | ⟨rfl, rfl, rfl, rfl, rfl, rfl, rfl⟩ | ⟨rfl, rfl, rfl, rfl, rfl, rfl, rfl⟩ | ⟨rfl, rfl, rfl, rfl, rfl, rfl, rfl⟩)
      all_goals
        go_enter Tryz.func80, Tryz.ntmps80
        go_wp2_with (first | (go_at_call 96; refine CP.out.mono ?_; rintro e w' ⟨rfl, rfl⟩) | (go_at_call 71; refine (CI.out _).mono ?_; rintro e w' ⟨rfl, rfl⟩) | (go_at_call 97; refine CK'.out.mono ?_; rintro e w' ⟨rfl, ⟨m_, rfl⟩⟩))
        all_goals (first | (go_ret; exact ⟨by simp [*] <;> omega, by first | exact Drawn0.refl _ | exact Drawn0.step (Drawn0.refl _) _⟩) | (go_quiet (first | (go_at_call 97; (with_reducible refine (CK'.out _).mono ?_); rintro e w' ⟨rfl, ⟨nd, rfl⟩⟩; (try first | exact ⟨rfl, _, World.drewN_drewN _ _ _⟩ | exact ⟨rfl, _, Eq.trans (World.drewN_drewN _ _ _) (congrArg (World.drewN _) (Nat.add_assoc _ _ _))⟩))); go_wp2; go_ret; exact ⟨by simp [*], ⟨⟨_, rfl⟩⟩⟩))
    · have q0 : ((l5.length : Int) == (n4 : Int)) = false := beq_eq_false_iff_ne.2 (by omega)
      have q1 : (l5.length == n4) = false := beq_eq_false_iff_ne.2 hln
      clear CK hln
      (simp only [List.mem_cons, List.not_mem_nil, or_false, Prod.mk.injEq] at hm; rcases hm with ⟨rfl, rfl, rfl, rfl, rfl, rfl, rfl⟩ | ⟨rfl, rfl, rfl, rfl, rfl, rfl, rfl⟩ | ⟨rfl, rfl, rfl, rfl, rfl, rfl, rfl⟩ | ⟨rfl, rfl, rfl, rfl, rfl, rfl, rfl⟩ | ⟨rfl, rfl, rfl, rfl, rfl, rfl, rfl⟩ | ⟨rfl, rfl, rfl, rfl, rfl, rfl, rfl⟩ | ⟨rfl, rfl, rfl, rfl, rfl, rfl, rfl⟩ | ⟨rfl, rfl, rfl, rfl, rfl, rfl, rfl⟩)
      all_goals
        go_enter Tryz.func80, Tryz.ntmps80
        go_wp2_with (first | (go_at_call 96; refine CP.out.mono ?_; rintro e w' ⟨rfl, rfl⟩) | (go_at_call 71; refine (CI.out _).mono ?_; rintro e w' ⟨rfl, rfl⟩))
        all_goals (first | (go_ret; exact ⟨by simp [*] <;> omega, by first | exact Drawn0.refl _ | exact Drawn0.step (Drawn0.refl _) _⟩) | (go_quiet (fail); go_wp2; go_ret; exact ⟨by simp [*], ⟨⟨_, rfl⟩⟩⟩))
  · have hn : 64 < n4 := by omega
    have hnI : (64 : Int) < (n4 : Int) := by omega
    go_enter Tryz.func80, Tryz.ntmps80
    go_wp2_with (go_at_call 96; refine CP.out.mono ?_; rintro e w' ⟨rfl, rfl⟩)
    all_goals (go_ret; exact ⟨by simp [*], Drawn0.refl _⟩)
end Go.Proofs.YtdghnfmhcnlppaaGreatDoor.Values
namespace Go.Proofs.YtdghnfmhcnlppaaGreatDoor.Values
open Go.RowKit Go.Proofs.YtdghnfmhcnlppaaGreatDoor.Q Go.Proofs.YtdghnfmhcnlppaaGreatDoor.Real Go.Proofs.YtdghnfmhcnlppaaGreatDoor.RealPure Go.Proofs.YtdghnfmhcnlppaaGreatDoorW.PrintWords Go.Proofs.YtdghnfmhcnlppaaGreatDoorW.PrintLast Go.Proofs.YtdghnfmhcnlppaaGreatDoorW.PrintMore
set_option linter.unusedSimpArgs false
set_option linter.unusedVariables false

def mayL (f : V → Int → Bool × Int) : List V → Int → Bool × Int
  | [], left => (true, left)
  | y :: ys, left => if (f y left).1 = true then mayL f ys (f y left).2 else (false, (f y left).2)
/-- May, over a tree of at most so many levels more: the answer, and what is left. -/
def mayD : Nat → V → Int → Bool × Int
  | 0, _, left => (false, left - 1)
  | d + 1, x, left => if left - 1 < 0 then (false, left - 1) else if ownB x = true then mayL (mayD d) x.f4 (left - 1) else (false, left - 1)

theorem mayL_range (f : V → Int → Bool × Int) (hf : ∀ y l, -1 ≤ l → l ≤ 1024 → 0 ≤ l → (-1 ≤ (f y l).2 ∧ (f y l).2 ≤ 1024 ∧ ((f y l).1 = true → 0 ≤ (f y l).2))) :
    ∀ ys l, 0 ≤ l → l ≤ 1024 → (-1 ≤ (mayL f ys l).2 ∧ (mayL f ys l).2 ≤ 1024 ∧ ((mayL f ys l).1 = true → 0 ≤ (mayL f ys l).2))
  | [], l, h0, h1 => ⟨by show -1 ≤ l; omega, h1, fun _ => h0⟩
  | y :: ys, l, h0, h1 => by
    have h := hf y l (by omega) h1 h0
    unfold mayL
    split
    · rename_i hq
      exact mayL_range f hf ys _ (h.2.2 hq) h.2.1
    · exact ⟨h.1, h.2.1, fun hh => by cases hh⟩
theorem mayD_range : ∀ d x l, 0 ≤ l → l ≤ 1024 → (-1 ≤ (mayD d x l).2 ∧ (mayD d x l).2 ≤ 1024 ∧ ((mayD d x l).1 = true → 0 ≤ (mayD d x l).2))
  | 0, x, l, h0, h1 => ⟨by show -1 ≤ l - 1; omega, by show l - 1 ≤ 1024; omega, fun h => by cases h⟩
  | d + 1, x, l, h0, h1 => by
    unfold mayD
    split
    · exact ⟨by show -1 ≤ l - 1; omega, by show l - 1 ≤ 1024; omega, fun h => by cases h⟩
    · split
      · exact mayL_range _ (fun y l _ h1 h0 => mayD_range d y l h0 h1) _ _ (by omega) (by omega)
      · exact ⟨by show -1 ≤ l - 1; omega, by show l - 1 ≤ 1024; omega, fun h => by cases h⟩

theorem At.below {w w1 : World} {p : Addr} {x : V} {A4 : Option Addr} {c4 : Nat} {A5 : Option Addr} {c5 : Nat} (h : At w p x A4 c4 A5 c5) (hb : Below w.heap.size w w1) : At w1 p x A4 c4 A5 c5 :=
  ⟨pw_cell_below hb h.g0, pw_cell_below hb h.g1, pw_cell_below hb h.g2, pw_cell_below hb h.g3, pw_cell_below hb h.g4, pw_cell_below hb h.g5⟩

/-- The one cell of 'left'. -/
def Left (w : World) (L : Nat) (l : Int) : Prop := w.heap[L]? = some (.cells #[.int .i64 l] 3 (0, 0))

theorem Left.cell {w : World} {L : Nat} {l : Int} (h : Left w L l) : w.cell? ⟨L, 0, none⟩ = some (.int .i64 l) := (blk_cell h 0).trans rfl
theorem Left.free {w : World} {L : Nat} {l : Int} (h : Left w L l) : w.frozen? ⟨L, 0, none⟩ = false := blk_frozen h 0

def MayC (d : Nat) : Prop := ∀ (deep : Int) (p : Addr) (x : V) (A4 : Option Addr) (c4 : Nat) (A5 : Option Addr) (c5 : Nat) (L : Nat) (left : Int) (w0 w : World),
    0 ≤ deep → deep + d = 9 → 0 ≤ left → left ≤ 1024 → w0.heap.size ≤ L → Below w0.heap.size w0 w → Left w L left → At w0 p x A4 c4 A5 c5 →
    Kd.C k27 w0 A4 x.f4.length x.f4 → x.f4.length ≤ c4 → Kd.C Kd.string w0 A5 x.f5.length x.f5 → x.f5.length ≤ c5 →
    Calls Tryz.prog 59 #[.pointer (some p), .int .i64 deep, .pointer (some ⟨L, 0, none⟩)] w fun e w' =>
      e = .returned (.bool (mayD d x left).1) ∧ Below w0.heap.size w0 w' ∧ Left w' L (mayD d x left).2

set_option maxHeartbeats 4000000 in
set_option maxRecDepth 100000 in
theorem may_zero : MayC 0 := by
  intro deep p x A4 c4 A5 c5 L left w0 w hdp hd h0 h1 hL hB hl h hr4 hc4 hr5 hc5
  obtain rfl : deep = 9 := by omega
  have hw : IntKind.i64.wrap (left - 1) = left - 1 := by rw [i64_w]; exact wrap_small _ (by omega) (by omega)
  have gl := hl.cell
  have fl := hl.free
  have gl2 : (w.setCell ⟨L, 0, none⟩ (.int .i64 (left - 1))).heap[L]? = some (.cells #[.int .i64 (left - 1)] 3 (0, 0)) := blk_put hl 0 _ rfl
  have hB2 : Below w0.heap.size w0 (w.setCell ⟨L, 0, none⟩ (.int .i64 (left - 1))) := below_set hB hL
  have hB2' := Lib.hid hB2; have gl2' := Lib.hid gl2
  clear h hr4 hc4 hr5 hc5 hB2 gl2 hB hl hL h0 h1 hd
  show Calls _ _ _ _ fun e w' => e = .returned (.bool false) ∧ Below w0.heap.size w0 w' ∧ Left w' L (left - 1)
  go_enter Tryz.func59, Tryz.ntmps59
  go_wp2
  go_ret
  exact ⟨rfl, hB2'.out, gl2'.out⟩
end Go.Proofs.YtdghnfmhcnlppaaGreatDoor.Values
namespace Go.Proofs.YtdghnfmhcnlppaaGreatDoor.Values
open Go.RowKit Go.Proofs.YtdghnfmhcnlppaaGreatDoor.Q Go.Proofs.YtdghnfmhcnlppaaGreatDoor.Real Go.Proofs.YtdghnfmhcnlppaaGreatDoor.RealPure Go.Proofs.YtdghnfmhcnlppaaGreatDoorW.PrintWords Go.Proofs.YtdghnfmhcnlppaaGreatDoorW.PrintLast Go.Proofs.YtdghnfmhcnlppaaGreatDoorW.PrintMore
set_option linter.unusedSimpArgs false
set_option linter.unusedVariables false

/-- The list from an element on. -/
theorem mayL_drop (f : V → Int → Bool × Int) (xs : List V) (i : Nat) (hi : i < xs.length) (l : Int) :
    mayL f (xs.drop i) l = if (f (rd_T27 xs i) l).1 = true then mayL f (xs.drop (i + 1)) (f (rd_T27 xs i) l).2 else (false, (f (rd_T27 xs i) l).2) := by
  have e : xs.drop i = rd_T27 xs i :: xs.drop (i + 1) := by
    rw [List.drop_eq_getElem_cons hi]
    congr 1
    unfold rd_T27
    simp [hi]
  rw [e]; rfl

theorem At.of_elem {w : World} {A : Option Addr} {n : Nat} {xs : List V} (h : Kd.C k27 w A n xs) (i : Int) (h0 : 0 ≤ i) (h1 : i < n) : ∃ ad A4 c4 A5 c5, A = some ad ∧ At w (ad.add (i.toNat * 6)) (rd_T27 xs i) A4 c4 A5 c5 ∧
    (rd_T27 xs i).f4.length ≤ c4 ∧ k27.C w A4 (rd_T27 xs i).f4.length (rd_T27 xs i).f4 ∧ (rd_T27 xs i).f5.length ≤ c5 ∧ Kd.string.C w A5 (rd_T27 xs i).f5.length (rd_T27 xs i).f5 := by
  obtain ⟨ad, A4, c4, A5, c5, e, g0, g1, g2, g3, g4, g5, l4, k4, l5, k5⟩ := at_T27 h i h0 h1
  exact ⟨ad, A4, c4, A5, c5, e, ⟨g0, g1, g2, g3, g4, g5⟩, l4, k4, l5, k5⟩

set_option maxHeartbeats 8000000 in
set_option maxRecDepth 100000 in
theorem may_succ (d : Nat) (ih : MayC d) : MayC (d + 1) := by
  intro deep p x A4 c4 A5 c5 L left w0 w hdp hd h0 h1 hL hB hl h hr4 hc4 hr5 hc5
  have hd8 : deep ≤ 8 := by omega
  have hdd : deep + 1 + d = 9 := by omega
  have hdp1 : 0 ≤ deep + 1 := by omega
  have hd0 : -9 ≤ deep ∨ deep < -9 := by omega
  have t8 : decide (8 < deep) = false := decide_eq_false (by omega)
  obtain ⟨l1, hl1e⟩ : ∃ l1 : Int, left - 1 = l1 := ⟨_, rfl⟩
  have hw : wrap64 (left - 1) = l1 := by rw [← hl1e]; exact wrap_small _ (by omega) (by omega)
  have hw' : IntKind.i64.wrap (left - 1) = l1 := by rw [i64_w]; exact hw
  have gl := hl.cell
  have fl := hl.free
  have gl2 : Left (w.setCell ⟨L, 0, none⟩ (.int .i64 l1)) L l1 := blk_put hl 0 _ rfl
  have hB2 : Below w0.heap.size w0 (w.setCell ⟨L, 0, none⟩ (.int .i64 l1)) := below_set hB hL
  have HIH := Lib.hid ih
  have H0 := Lib.hid h; have HR4 := Lib.hid hr4; have HC4 := Lib.hid hc4; have HR5 := Lib.hid hr5; have HC5 := Lib.hid hc5; have HL := Lib.hid hL
  clear h hr4 hc4 hr5 hc5 hB hl ih hd0
  show Calls _ _ _ _ fun e w' => e = .returned (.bool (mayD (d + 1) x left).1) ∧ Below w0.heap.size w0 w' ∧ Left w' L (mayD (d + 1) x left).2
  rw [show mayD (d + 1) x left = (if left - 1 < 0 then (false, left - 1) else if ownB x = true then mayL (mayD d) x.f4 (left - 1) else (false, left - 1)) from rfl]
  rw [hl1e]
  have hl1 : l1 ≤ 1024 := by omega
  have hl0 : -1 ≤ l1 := by omega
  clear h0 h1 hd hl1e
  by_cases hneg : l1 < 0
  · rw [if_pos hneg]
    have t9 : decide (l1 < 0) = true := decide_eq_true hneg
    have hB2' := Lib.hid hB2; have gl2' := Lib.hid gl2
    have g := gl2.cell
    clear hB2 gl2 hneg hl1 hl0 hdd hL
    go_enter Tryz.func59, Tryz.ntmps59
    go_wp2
    all_goals (first | (go_ret; exact ⟨rfl, hB2'.out, gl2'.out⟩))
  rw [if_neg hneg]
  have t9 : decide (l1 < 0) = false := decide_eq_false hneg
  have l10 : 0 ≤ l1 := by omega
  clear hneg hl0
  have H1 := Lib.hid (H0.out.below hB2)
  have CO := Lib.hid (own_calls p x A4 c4 A5 c5 _ H1.out (Kd.C_below HR5.out hB2) HC5.out)
  have g := gl2.cell
  obtain ⟨g0, g1, g2, g3, g4, g5⟩ := H1.out
  have hB2' := Lib.hid hB2; have gl2' := Lib.hid gl2
  clear hB2 gl2 H1
  by_cases ho : ownB x = true
  · rw [if_pos ho]
    rw [ho] at CO
    have h64 : x.f4.length ≤ 64 := by
      have := ho
      unfold ownB at this
      simp only [Bool.and_eq_true, decide_eq_true_eq] at this
      exact this.1.2
    clear ho
    have CO' := Lib.hid CO.out
    clear CO
    obtain ⟨R, hR⟩ : ∃ R, mayL (mayD d) x.f4 l1 = R := ⟨_, rfl⟩
    rw [hR]
    go_enter Tryz.func59, Tryz.ntmps59
    go_wp2_with (go_at_call 80; refine CO'.out.mono ?_; rintro e w' ⟨rfl, ⟨m_, rfl⟩⟩)
    have A1 := Aside0.mk (pw_below_drewN hB2'.out m_)
    have A2 := Aside0.mk (blk_drewN gl2'.out m_)
    clear CO' hB2' gl2'
    go_loopg [31] x.f4.length (fun kq v31 w' => ∃ (i lv : Int), v31 = .int .i64 i ∧ Aside0 (i + kq = x.f4.length ∧ 0 ≤ i) ∧ Aside0 (mayL (mayD d) (x.f4.drop i.toNat) lv = R) ∧ Aside0 (0 ≤ lv ∧ lv ≤ 1024) ∧ Aside0 (Below w0.heap.size w0 w') ∧ Aside0 (Left w' L lv))
    case atStart => exact ⟨0, l1, rfl, ⟨by omega, by omega⟩, ⟨hR⟩, ⟨l10, hl1⟩, A1, A2⟩
    case round =>
      clear A1 A2 g g0 g1 g2 g3 g4 g5
      obtain ⟨i, lv, rfl, HI, HM, HV, HB, HG⟩ := hrel
      obtain ⟨g0, g1, g2, g3, g4, g5⟩ := H0.out.below HB.out
      have gl3 := HG.out.cell
      obtain ⟨hi1, hi0⟩ := HI.out
      cases gk with
      | zero =>
        have hlt : decide (i < (x.f4.length : Int)) = false := decide_eq_false (by omega)
        have e := HM.out
        rw [List.drop_of_length_le (by omega)] at e
        have e1 : R.1 = true := by rw [← e]; rfl
        have e2 : R.2 = lv := by rw [← e]; rfl
        clear e hi1 hi0
        go_wp2
        go_ret
        exact ⟨by rw [e1]; rfl, HB.out, by rw [e2]; exact HG.out⟩
      | succ k2 =>
        have hlt : decide (i < (x.f4.length : Int)) = true := decide_eq_true (by omega)
        have hlt' : i < (x.f4.length : Int) := by omega
        have h0L := H0.out.g4
        obtain ⟨ad, B4, d4, B5, d5, rfl, hAt, hl4, hk4, hl5, hk5⟩ := At.of_elem HR4.out i hi0 hlt'
        have hstep := mayL_drop (mayD d) x.f4 i.toNat (by omega) lv
        rw [HM.out] at hstep
        have er : rd_T27 x.f4 (i.toNat : Nat) = rd_T27 x.f4 i := by unfold rd_T27; rfl
        rw [er] at hstep
        have C1 := Lib.hid (fun m => HIH.out (deep + 1) (ad.add (i.toNat * 6)) (rd_T27 x.f4 i) B4 d4 B5 d5 L lv w0 (wr.drewN m) hdp1 hdd HV.out.1 HV.out.2 HL.out (pw_below_drewN HB.out m) (blk_drewN HG.out m) hAt hk4 hl4 hk5 hl5)
        have C2 := Lib.hid (HIH.out (deep + 1) (ad.add (i.toNat * 6)) (rd_T27 x.f4 i) B4 d4 B5 d5 L lv w0 wr hdp1 hdd HV.out.1 HV.out.2 HL.out HB.out HG.out hAt hk4 hl4 hk5 hl5)
        have hrg := mayD_range d (rd_T27 x.f4 i) lv HV.out.1 HV.out.2
        have q0 := eq_true hi0
        have q1 := eq_true hlt'
        have en : (i + 1).toNat = i.toNat + 1 := by omega
        have wi : wrap64 (i + 1) = i + 1 := wrap_small _ (by omega) (by omega)
        have wi' : IntKind.i64.wrap (i + 1) = i + 1 := by rw [i64_w]; exact wi
        have wd : wrap64 (deep + 1) = deep + 1 := wrap_small _ (by omega) (by omega)
        have wd' : IntKind.i64.wrap (deep + 1) = deep + 1 := by rw [i64_w]; exact wd
        generalize mayD d (rd_T27 x.f4 i) lv = M at C1 C2 hstep hrg
        obtain ⟨mb, ml⟩ := M
        have HRG := Lib.hid hrg; have HST := Lib.hid hstep
        clear hrg hstep er hAt hl4 hk4 hl5 hk5 h0L HM
        cases mb
        · have e1 : R.1 = false := by rw [HST.out]; rfl
          have e2 : R.2 = ml := by rw [HST.out]; rfl
          go_wp2_with (go_at_call 59; refine C2.out.mono ?_; rintro e w' ⟨rfl, hb3, hg3⟩)
          go_ret
          exact ⟨by rw [e1]; rfl, hb3, by rw [e2]; exact hg3⟩
        · have hM2 : R = mayL (mayD d) (x.f4.drop (i + 1).toNat) ml := by rw [HST.out, en]; rfl
          have HM2 := Aside0.mk hM2.symm
          have HV2 := Aside0.mk (show 0 ≤ ml ∧ ml ≤ 1024 from ⟨HRG.out.2.2 rfl, HRG.out.2.1⟩)
          have HI2 := Aside0.mk (show i + 1 + k2 = x.f4.length ∧ 0 ≤ i + 1 from ⟨by omega, by omega⟩)
          clear hM2
          go_wp2_with (go_at_call 59; refine C2.out.mono ?_; rintro e w' ⟨rfl, hb3, hg3⟩; have HB3 := Aside0.mk hb3; have HG3 := Aside0.mk hg3; clear hb3 hg3)
          go_roundg k2
          case measure => omega
          case rel => exact ⟨i + 1, ml, rfl, HI2, HM2, HV2, HB3, HG3⟩
  · rw [if_neg ho]
    rw [Bool.eq_false_iff.2 ho] at CO
    have CO' := Lib.hid CO.out
    clear ho CO
    go_enter Tryz.func59, Tryz.ntmps59
    go_wp2_with (go_at_call 80; refine CO'.out.mono ?_; rintro e w' ⟨rfl, ⟨m_, rfl⟩⟩)
    go_ret
    exact ⟨rfl, pw_below_drewN hB2'.out _, blk_drewN gl2'.out _⟩
theorem may_all : ∀ d, MayC d
  | 0 => may_zero
  | d + 1 => may_succ d (may_all d)
end Go.Proofs.YtdghnfmhcnlppaaGreatDoor.Values
namespace Go.Proofs.YtdghnfmhcnlppaaGreatDoor.Values
open Go.RowKit Go.Proofs.YtdghnfmhcnlppaaGreatDoor.Q Go.Proofs.YtdghnfmhcnlppaaGreatDoor.Real Go.Proofs.YtdghnfmhcnlppaaGreatDoor.RealPure Go.Proofs.YtdghnfmhcnlppaaGreatDoorW.PrintWords Go.Proofs.YtdghnfmhcnlppaaGreatDoorW.PrintLast Go.Proofs.YtdghnfmhcnlppaaGreatDoorW.PrintMore
set_option linter.unusedSimpArgs false
set_option linter.unusedVariables false

def mayB (x : V) : Bool := (mayD 8 x 1024).1

/-- A value, boxed: its cells lie. -/
theorem At.of_box {w : World} {g : Nat} {x : V} {A4 : Option Addr} {c4 : Nat} {A5 : Option Addr} {c5 : Nat}
    (h : w.heap[g]? = some (.cells #[.int .i64 x.f0, .int .i64 x.f1, .int .u64 x.f2, .string x.f3, .slice A4 x.f4.length c4, .slice A5 x.f5.length c5] 27 (0, 0))) : At w ⟨g, 0, none⟩ x A4 c4 A5 c5 :=
  ⟨(blk_cell h 0).trans rfl, (blk_cell h 1).trans rfl, (blk_cell h 2).trans rfl, (blk_cell h 3).trans rfl, (blk_cell h 4).trans rfl, (blk_cell h 5).trans rfl⟩

abbrev arg (x : V) (A4 : Option Addr) (c4 : Nat) (A5 : Option Addr) (c5 : Nat) : Value := .agg #[.int .i64 x.f0, .int .i64 x.f1, .int .u64 x.f2, .string x.f3, .slice A4 x.f4.length c4, .slice A5 x.f5.length c5]

/-- A value's two rows lie. -/
structure Rows4 (w : World) (x : V) (A4 : Option Addr) (c4 : Nat) (A5 : Option Addr) (c5 : Nat) : Prop where
  k4 : Kd.C k27 w A4 x.f4.length x.f4
  l4 : x.f4.length ≤ c4
  k5 : Kd.C Kd.string w A5 x.f5.length x.f5
  l5 : x.f5.length ≤ c5
theorem Rows4.below {w w1 : World} {x : V} {A4 : Option Addr} {c4 : Nat} {A5 : Option Addr} {c5 : Nat} (h : Rows4 w x A4 c4 A5 c5) (hb : Below w.heap.size w w1) : Rows4 w1 x A4 c4 A5 c5 :=
  ⟨Kd.C_below h.k4 hb, h.l4, Kd.C_below h.k5 hb, h.l5⟩

set_option maxHeartbeats 4000000 in
set_option maxRecDepth 100000 in
theorem May_calls (x : V) (A4 : Option Addr) (c4 : Nat) (A5 : Option Addr) (c5 : Nat) (w : World) (h : Rows4 w x A4 c4 A5 c5) :
    Calls Tryz.prog 35 #[arg x A4 c4 A5 c5] w fun e w' => e = .returned (.bool (mayB x)) ∧ Below w.heap.size w w' := by
  have hu27 := Tryz.underlying27
  have H0 := Lib.hid h
  have CM := Lib.hid (may_all 8)
  clear h
  unfold mayB
  go_enter Tryz.func35, Tryz.ntmps35
  go_wp2_with (first | ((with_reducible refine gate_dst (N := 1) rfl ?_); (try (refine gate_guard (by rfl) ?_; dsimp only)); refine box_event ?hg (N := 1) ?hd (cs := #[.int .i64 x.f0, .int .i64 x.f1, .int .u64 x.f2, .string x.f3, .slice A4 x.f4.length c4, .slice A5 x.f5.length c5]) (t := 27) ?hr ?_; (case hd => rfl); (case hg => rfl); (case hr => first | (go_simp; done) | (go_simp; rfl)); intro gb hg w3 hbox hb; have BK := Lib.hid hbox; have HB := Lib.hid hb; clear hb hbox hg) | (go_at_call 59; refine (CM.out 1 ⟨gb, 0, none⟩ x A4 c4 A5 c5 w3.heap.size 1024 w3 _ (by decide) (by decide) (by decide) (by decide) (Nat.le_refl _) (below_alloc (Below.refl _ _) _) (blk_new _ _) (At.of_box BK.out) (H0.out.below HB.out).k4 (H0.out.below HB.out).l4 (H0.out.below HB.out).k5 (H0.out.below HB.out).l5).mono ?_; rintro e w' ⟨rfl, hb4, hg4⟩; have HB4 := Lib.hid (below_step HB.out hb4); clear hb4 hg4))
  go_ret
  exact ⟨rfl, HB4.out⟩
end Go.Proofs.YtdghnfmhcnlppaaGreatDoor.Values
