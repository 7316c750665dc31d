/- Package value, walked: Truth and True. · Package value, walked: True. · Package value, walked: Said and Text. · Package value, walked: Text. · Package value, walked: sameReal. · Package value, walked: Less. -/
import Derived.Test.YtdghnfmhcnlppaaGreatDoorValuesE
import Derived.Laws.Cover2
namespace Go.Proofs.YtdghnfmhcnlppaaGreatDoor.Values
open Go.RowKit Go.Proofs.YtdghnfmhcnlppaaGreatDoor.Q Go.Proofs.YtdghnfmhcnlppaaGreatDoor.Real Go.Proofs.YtdghnfmhcnlppaaGreatDoor.RealPure Go.Proofs.YtdghnfmhcnlppaaGreatDoorW.PrintWords Go.Proofs.YtdghnfmhcnlppaaGreatDoorW.PrintLast Go.Proofs.YtdghnfmhcnlppaaGreatDoorW.PrintMore
set_option linter.unusedSimpArgs false
set_option linter.unusedVariables false

def truthB (x : V) : Bool :=
  if x.f0 == 1 || x.f0 == 2 then x.f1 != 0 else if x.f0 == 3 then (kindN x.f2.toNat != 2 && kindN x.f2.toNat != 0) else (x.f3.toList != [] || decide (0 < x.f4.length))

set_option maxHeartbeats 4000000 in
set_option maxRecDepth 100000 in
theorem Truth_calls (p : Addr) (x : V) (A4 : Option Addr) (c4 : Nat) (A5 : Option Addr) (c5 : Nat) (w : World) (h : At w p x A4 c4 A5 c5) (h2 : 0 ≤ x.f2) (h2' : x.f2 < 2 ^ 64) :
    Calls Tryz.prog 66 #[.pointer (some p)] w fun e w' => e = .returned (.bool (truthB x)) ∧ w' = w := by
  obtain ⟨g0, g1, g2, g3, g4, g5⟩ := h
  have CK := Lib.hid (fun W => kind_any x.f2.toNat (by omega) W)
  have ej : ((x.f2.toNat : Nat) : Int) = x.f2 := Int.toNat_of_nonneg h2
  rw [ej] at CK
  unfold truthB
  clear h2 h2' ej
  refine kinds_of x.f0 _ fun b0 b1 b2 b3 b4 b5 b6 e0 e1 e2 e3 e4 e5 e6 hm => ?_
  rw [e1, e2, e3]
  generalize kindN x.f2.toNat = kn at *
  generalize x.f0 = k at *
  generalize x.f1 = i at *
  generalize x.f2 = j at *
  generalize x.f3 = s at *
  generalize x.f4.length = n4 at *
  (simp only [List.mem_cons, List.not_mem_nil, or_false, Prod.mk.injEq] at hm; rcases hm with ⟨rfl, rfl, rfl, rfl, rfl, rfl, rfl⟩ | ⟨rfl, rfl, rfl, rfl, rfl, rfl, rfl⟩ | ⟨rfl, rfl, rfl, rfl, rfl, rfl, rfl⟩ | ⟨rfl, rfl, rfl, rfl, rfl, rfl, rfl⟩ | ⟨rfl, rfl, rfl, rfl, rfl, rfl, rfl⟩ | ⟨rfl, rfl, rfl, rfl, rfl, rfl, rfl⟩ | ⟨rfl, rfl, rfl, rfl, rfl, rfl, rfl⟩ | ⟨rfl, rfl, rfl, rfl, rfl, rfl, rfl⟩)
  all_goals
    go_enter Tryz.func66, Tryz.ntmps66
    go_wp2_with (go_at_call 84; refine (CK.out _).mono ?_; rintro e w' ⟨rfl, rfl⟩)
    all_goals (first | (go_ret; exact ⟨by simp [*], rfl⟩))
end Go.Proofs.YtdghnfmhcnlppaaGreatDoor.Values
namespace Go.Proofs.YtdghnfmhcnlppaaGreatDoor.Values
open Go.RowKit Go.Proofs.YtdghnfmhcnlppaaGreatDoor.Q Go.Proofs.YtdghnfmhcnlppaaGreatDoor.Real Go.Proofs.YtdghnfmhcnlppaaGreatDoor.RealPure Go.Proofs.YtdghnfmhcnlppaaGreatDoorW.PrintWords Go.Proofs.YtdghnfmhcnlppaaGreatDoorW.PrintLast Go.Proofs.YtdghnfmhcnlppaaGreatDoorW.PrintMore
set_option linter.unusedSimpArgs false
set_option linter.unusedVariables false

end Go.Proofs.YtdghnfmhcnlppaaGreatDoor.Values
namespace Go.Proofs.YtdghnfmhcnlppaaGreatDoor.Values
open Go.RowKit Go.Proofs.YtdghnfmhcnlppaaGreatDoor.Q Go.Proofs.YtdghnfmhcnlppaaGreatDoor.Real Go.Proofs.YtdghnfmhcnlppaaGreatDoor.RealPure Go.Proofs.YtdghnfmhcnlppaaGreatDoorW.PrintWords Go.Proofs.YtdghnfmhcnlppaaGreatDoorW.PrintLast Go.Proofs.YtdghnfmhcnlppaaGreatDoorW.PrintMore
set_option linter.unusedSimpArgs false
set_option linter.unusedVariables false

def boolT (b : Bool) : ByteArray := if b = true then ⟨#[116, 114, 117, 101]⟩ else ⟨#[102, 97, 108, 115, 101]⟩
def saidS (x : V) : ByteArray :=
  if x.f0 == 1 then boolT (x.f1 == 1) else if x.f0 == 2 then ⟨(Lib.itoa x.f1).toArray⟩ else if x.f0 == 3 then ⟨(textL x.f2.toNat).toArray⟩
  else if x.f0 == 5 || x.f0 == 6 then ⟨#[]⟩ else x.f3
def saidE (x : V) : Int := if x.f0 == 5 || x.f0 == 6 then 402 else 0

theorem ifb_calls (b : Bool) (w : World) : Calls Tryz.prog 117 #[.bool b] w fun e w' => e = .returned (.string (boolT b)) ∧ w' = w := by
  cases b
  all_goals
    go_enter Tryz.func117, Tryz.ntmps117
    go_wp2
    go_ret
    exact ⟨rfl, rfl⟩
theorem fb_calls (b : Bool) (w : World) : Calls Tryz.prog 105 #[.bool b] w fun e w' => e = .returned (.string (boolT b)) ∧ w' = w := by
  have CF := Lib.hid (ifb_calls b w)
  generalize boolT b = s at CF ⊢
  go_enter Tryz.func105, Tryz.ntmps105
  go_wp2_with (go_at_call 117; refine CF.out.mono ?_; rintro e w' ⟨rfl, rfl⟩)
  go_ret
  exact ⟨rfl, rfl⟩

set_option maxHeartbeats 4000000 in
set_option maxRecDepth 100000 in
theorem Said_calls (p : Addr) (x : V) (A4 : Option Addr) (c4 : Nat) (A5 : Option Addr) (c5 : Nat) (w : World) (hT : Tabs w) (h : At w p x A4 c4 A5 c5)
    (h1 : -9223372036854775808 ≤ x.f1) (h1' : x.f1 ≤ 9223372036854775807) (h2 : 0 ≤ x.f2) (h2' : x.f2 < 2 ^ 64) :
    Calls Tryz.prog 85 #[.pointer (some p)] w fun e w' => e = .returned (.tuple #[.string (saidS x), .int .i64 (saidE x)]) ∧ Below w.heap.size w w' := by
  obtain ⟨g0, g1, g2, g3, g4, g5⟩ := h
  have CI := Lib.hid (Tryz.strconv_Itoa x.f1 (by omega) (by omega) w hT.pow)
  have CR := Lib.hid (real_Text.calls x.f2 ⟨(textL x.f2.toNat).toArray⟩ w hT (by unfold real_Text.f; rw [if_pos ⟨h2, h2'⟩]))
  have CB := Lib.hid (fb_calls (x.f1 == 1) w)
  clear hT h1 h1' h2 h2'
  unfold saidS saidE
  refine kinds_of x.f0 _ fun b0 b1 b2 b3 b4 b5 b6 e0 e1 e2 e3 e4 e5 e6 hm => ?_
  rw [e1, e2, e3, e5, e6]
  generalize boolT (x.f1 == 1) = tb at *
  generalize Lib.itoa x.f1 = ti at *
  generalize textL x.f2.toNat = tr at *
  generalize hq : (x.f1 == 1) = q at *
  generalize x.f0 = k at *
  generalize x.f1 = i at *
  generalize x.f2 = j at *
  generalize x.f3 = s at *
  generalize x.f4.length = n4 at *
  (simp only [List.mem_cons, List.not_mem_nil, or_false, Prod.mk.injEq] at hm; rcases hm with ⟨rfl, rfl, rfl, rfl, rfl, rfl, rfl⟩ | ⟨rfl, rfl, rfl, rfl, rfl, rfl, rfl⟩ | ⟨rfl, rfl, rfl, rfl, rfl, rfl, rfl⟩ | ⟨rfl, rfl, rfl, rfl, rfl, rfl, rfl⟩ | ⟨rfl, rfl, rfl, rfl, rfl, rfl, rfl⟩ | ⟨rfl, rfl, rfl, rfl, rfl, rfl, rfl⟩ | ⟨rfl, rfl, rfl, rfl, rfl, rfl, rfl⟩ | ⟨rfl, rfl, rfl, rfl, rfl, rfl, rfl⟩)
  all_goals
    go_enter Tryz.func85, Tryz.ntmps85
    go_wp2_with (first | (go_at_call 105; refine CB.out.mono ?_; rintro e w' ⟨rfl, rfl⟩) | (go_at_call 106; refine CI.out.mono ?_; rintro e w' ⟨rfl, nk_, os_, rfl⟩) | (go_at_call 107; refine CR.out.mono ?_; rintro e w' ⟨rfl, hb4⟩; have HB4 := Lib.hid hb4; clear hb4))
    all_goals (first | (go_ret; exact ⟨by rfl, by first | exact HB4.out | exact Below.refl _ _ | exact Lib.below_grow _ _ (Nat.le_refl _) _ _⟩) | (go_ret2; exact ⟨by rfl, by first | exact HB4.out | exact Below.refl _ _ | exact Lib.below_grow _ _ (Nat.le_refl _) _ _⟩))
end Go.Proofs.YtdghnfmhcnlppaaGreatDoor.Values
namespace Go.Proofs.YtdghnfmhcnlppaaGreatDoor.Values
open Go.RowKit Go.Proofs.YtdghnfmhcnlppaaGreatDoor.Q Go.Proofs.YtdghnfmhcnlppaaGreatDoor.Real Go.Proofs.YtdghnfmhcnlppaaGreatDoor.RealPure Go.Proofs.YtdghnfmhcnlppaaGreatDoorW.PrintWords Go.Proofs.YtdghnfmhcnlppaaGreatDoorW.PrintLast Go.Proofs.YtdghnfmhcnlppaaGreatDoorW.PrintMore
set_option linter.unusedSimpArgs false
set_option linter.unusedVariables false

theorem own_of_may {x : V} (h : mayB x = true) : ownB x = true := by
  unfold mayB at h
  unfold mayD at h
  split at h
  · cases h
  · split at h
    · assumption
    · cases h
theorem int_of_own {x : V} (h : ownB x = true) : -9007199254740991 ≤ x.f1 ∧ x.f1 ≤ 9007199254740991 := by
  unfold ownB plainB intB at h
  by_cases h1 : x.f0 = 1
  · rw [h1] at h; simp at h; omega
  by_cases h2 : x.f0 = 2
  · rw [h2] at h; simp at h; omega
  · have e1 : (x.f0 == 1) = false := beq_eq_false_iff_ne.2 h1
    have e2 : (x.f0 == 2) = false := beq_eq_false_iff_ne.2 h2
    rw [e1, e2] at h; simp at h; omega

end Go.Proofs.YtdghnfmhcnlppaaGreatDoor.Values
namespace Go.Proofs.YtdghnfmhcnlppaaGreatDoor.Values
open Go.RowKit Go.Proofs.YtdghnfmhcnlppaaGreatDoor.Q Go.Proofs.YtdghnfmhcnlppaaGreatDoor.Real Go.Proofs.YtdghnfmhcnlppaaGreatDoor.RealPure Go.Proofs.YtdghnfmhcnlppaaGreatDoorW.PrintWords Go.Proofs.YtdghnfmhcnlppaaGreatDoorW.PrintLast Go.Proofs.YtdghnfmhcnlppaaGreatDoorW.PrintMore
set_option linter.unusedSimpArgs false
set_option linter.unusedVariables false

def sameRealB (a b : Int) : Bool := (kindN a.toNat == kindN b.toNat) && (kindN a.toNat != 0) && (a == b || kindN a.toNat == 2)

set_option maxHeartbeats 4000000 in
set_option maxRecDepth 100000 in
theorem sameReal_calls (a b : Int) (w : World) (h1 : 0 ≤ a) (h1' : a < 2 ^ 64) (h2 : 0 ≤ b) (h2' : b < 2 ^ 64) :
    Calls Tryz.prog 98 #[.int .u64 a, .int .u64 b] w fun e w' => e = .returned (.bool (sameRealB a b)) ∧ Drawn0 w w' := by
  have C1 := Lib.hid (fun W => kind_any a.toNat (by omega) W)
  have C2 := Lib.hid (fun W => kind_any b.toNat (by omega) W)
  rw [Int.toNat_of_nonneg h1] at C1
  rw [Int.toNat_of_nonneg h2] at C2
  unfold sameRealB
  clear h1 h1' h2 h2'
  generalize kindN a.toNat = x at *
  generalize kindN b.toNat = y at *
  obtain ⟨ab, e4⟩ : ∃ q, (a == b) = q := ⟨_, rfl⟩
  obtain ⟨q1, e1⟩ : ∃ q, (x == y) = q := ⟨_, rfl⟩
  obtain ⟨q2, e2⟩ : ∃ q, (x == 0) = q := ⟨_, rfl⟩
  obtain ⟨q3, e3⟩ : ∃ q, (x == 2) = q := ⟨_, rfl⟩
  have e2' : (x != 0) = !q2 := by rw [← e2]; rfl
  rw [e4, e1, e2', e3]
  cases ab <;> cases q1 <;> cases q2 <;> cases q3
  all_goals
    go_enter Tryz.func98, Tryz.ntmps98
    go_wp2_with (first | (go_at_call 84; (with_reducible refine (C1.out _).mono ?_); rintro e w' ⟨rfl, rfl⟩) | (go_at_call 84; (with_reducible refine (C2.out _).mono ?_); rintro e w' ⟨rfl, rfl⟩))
    all_goals (first | (go_ret; exact ⟨rfl, Drawn0.refl _⟩) | (repeat (go_quiet (fail); try go_wp2)))
    all_goals (first | (go_ret; exact ⟨rfl, ⟨⟨_, rfl⟩⟩⟩))
end Go.Proofs.YtdghnfmhcnlppaaGreatDoor.Values
namespace Go.Proofs.YtdghnfmhcnlppaaGreatDoor.Values
open Go.RowKit Go.Proofs.YtdghnfmhcnlppaaGreatDoor.Q Go.Proofs.YtdghnfmhcnlppaaGreatDoor.Real Go.Proofs.YtdghnfmhcnlppaaGreatDoor.RealPure Go.Proofs.YtdghnfmhcnlppaaGreatDoorW.PrintWords Go.Proofs.YtdghnfmhcnlppaaGreatDoorW.PrintLast Go.Proofs.YtdghnfmhcnlppaaGreatDoorW.PrintMore
set_option linter.unusedSimpArgs false
set_option linter.unusedVariables false

def floatLt (a b : Nat) : Bool := FloatKind.f64.format.order a b == some .lt
def lessB (x y : V) : Bool :=
  if mayB x && mayB y && x.f0 == y.f0 then
    if x.f0 == 2 then decide (x.f1 < y.f1) else if x.f0 == 3 then floatLt x.f2.toNat y.f2.toNat else if x.f0 == 4 then Op.bytesLess x.f3.toList y.f3.toList else false
  else false
def lessE (x y : V) : Int := if mayB x && mayB y then (if x.f0 == y.f0 && (x.f0 == 2 || x.f0 == 3 || x.f0 == 4) then 0 else 402) else 400

set_option maxHeartbeats 8000000 in
set_option maxRecDepth 100000 in
theorem Less_calls (x y : V) (A4 : Option Addr) (c4 : Nat) (A5 : Option Addr) (c5 : Nat) (B4 : Option Addr) (d4 : Nat) (B5 : Option Addr) (d5 : Nat) (w : World) (h : Rows4 w x A4 c4 A5 c5) (h' : Rows4 w y B4 d4 B5 d5)  :
    Calls Tryz.prog 65 #[arg x A4 c4 A5 c5, arg y B4 d4 B5 d5] w fun e w' => e = .returned (.tuple #[.bool (lessB x y), .int .i64 (lessE x y)]) ∧ Below w.heap.size w w' := by
  have hu27 := Tryz.underlying27
  have H0 := Lib.hid h
  have H1 := Lib.hid h'
  have CM1 := Lib.hid (May_calls x A4 c4 A5 c5)
  have CM2 := Lib.hid (May_calls y B4 d4 B5 d5)
  have e1 := frombits x.f2
  have e2 := frombits y.f2
  clear h h'
  unfold lessB lessE
  obtain ⟨ml, hml⟩ : ∃ q, mayB x = q := ⟨_, rfl⟩
  obtain ⟨mr, hmr⟩ : ∃ q, mayB y = q := ⟨_, rfl⟩
  rw [hml] at CM1 ⊢; rw [hmr] at CM2 ⊢
  clear hml hmr
  obtain ⟨ke, hke⟩ : ∃ q, (x.f0 == y.f0) = q := ⟨_, rfl⟩
  rw [hke]
  refine kinds_of x.f0 _ fun b0 b1 b2 b3 b4 b5 b6 k0 k1 k2 k3 k4 k5 k6 hm => ?_
  rw [k2, k3, k4]
  unfold floatLt
  cases ml
  · clear hm
    go_enter Tryz.func65, Tryz.ntmps65
    go_upto_region 1 with (first | ((with_reducible refine gate_dst (N := 2) rfl ?_); (try (refine gate_guard (by rfl) ?_; dsimp only)); refine box_event ?hg (N := 2) ?hd (cs := #[.int .i64 x.f0, .int .i64 x.f1, .int .u64 x.f2, .string x.f3, .slice A4 x.f4.length c4, .slice A5 x.f5.length c5]) (t := 27) ?hr ?_; (case hd => rfl); (case hg => rfl); (case hr => first | (go_simp; done) | (go_simp; rfl)); intro gb hg w3 hbox hb; have BK := Lib.hid hbox; have HB := Lib.hid hb; clear hb hbox hg) | ((with_reducible refine gate_dst (N := 3) rfl ?_); (try (refine gate_guard (by rfl) ?_; dsimp only)); refine box_event ?hg (N := 3) ?hd (cs := #[.int .i64 y.f0, .int .i64 y.f1, .int .u64 y.f2, .string y.f3, .slice B4 y.f4.length d4, .slice B5 y.f5.length d5]) (t := 27) ?hr ?_; (case hd => rfl); (case hg => rfl); (case hr => first | (go_simp; done) | (go_simp; rfl)); intro gb2 hg2 w4 hbox2 hb2; have G0 := Lib.hid ((At.of_box BK.out).below hb2); have G1 := Lib.hid (At.of_box hbox2); have HBB := Lib.hid (below_step HB.out hb2); clear hb2 hbox2 hg2))
    obtain ⟨g0, g1, g2, g3, g4, g5⟩ := G0.out
    obtain ⟨i0, i1, i2, i3, i4, i5⟩ := G1.out
    go_wp2_with (first | (go_at_call 35; (with_reducible refine (CM1.out _ (H0.out.below HBB.out)).mono ?_); rintro e w5 ⟨rfl, hb5⟩; have G0' := Lib.hid (G0.out.below hb5); have G1' := Lib.hid (G1.out.below hb5); have HB5 := Lib.hid (below_step HBB.out hb5); clear hb5; obtain ⟨g0, g1, g2, g3, g4, g5⟩ := G0'.out; obtain ⟨i0, i1, i2, i3, i4, i5⟩ := G1'.out) | (go_at_call 35; (with_reducible refine (CM2.out _ (H1.out.below HB5.out)).mono ?_); rintro e w6 ⟨rfl, hb6⟩; have G0'' := Lib.hid (G0'.out.below hb6); have G1'' := Lib.hid (G1'.out.below hb6); have HB6 := Lib.hid (below_step HB5.out hb6); clear hb6; obtain ⟨g0, g1, g2, g3, g4, g5⟩ := G0''.out; obtain ⟨i0, i1, i2, i3, i4, i5⟩ := G1''.out))
    all_goals (first | (go_ret2; exact ⟨rfl, HB5.out⟩) | (go_ret; exact ⟨rfl, HB5.out⟩))
  cases mr
  · clear hm
    go_enter Tryz.func65, Tryz.ntmps65
    go_upto_region 1 with (first | ((with_reducible refine gate_dst (N := 2) rfl ?_); (try (refine gate_guard (by rfl) ?_; dsimp only)); refine box_event ?hg (N := 2) ?hd (cs := #[.int .i64 x.f0, .int .i64 x.f1, .int .u64 x.f2, .string x.f3, .slice A4 x.f4.length c4, .slice A5 x.f5.length c5]) (t := 27) ?hr ?_; (case hd => rfl); (case hg => rfl); (case hr => first | (go_simp; done) | (go_simp; rfl)); intro gb hg w3 hbox hb; have BK := Lib.hid hbox; have HB := Lib.hid hb; clear hb hbox hg) | ((with_reducible refine gate_dst (N := 3) rfl ?_); (try (refine gate_guard (by rfl) ?_; dsimp only)); refine box_event ?hg (N := 3) ?hd (cs := #[.int .i64 y.f0, .int .i64 y.f1, .int .u64 y.f2, .string y.f3, .slice B4 y.f4.length d4, .slice B5 y.f5.length d5]) (t := 27) ?hr ?_; (case hd => rfl); (case hg => rfl); (case hr => first | (go_simp; done) | (go_simp; rfl)); intro gb2 hg2 w4 hbox2 hb2; have G0 := Lib.hid ((At.of_box BK.out).below hb2); have G1 := Lib.hid (At.of_box hbox2); have HBB := Lib.hid (below_step HB.out hb2); clear hb2 hbox2 hg2))
    obtain ⟨g0, g1, g2, g3, g4, g5⟩ := G0.out
    obtain ⟨i0, i1, i2, i3, i4, i5⟩ := G1.out
    go_wp2_with (first | (go_at_call 35; (with_reducible refine (CM1.out _ (H0.out.below HBB.out)).mono ?_); rintro e w5 ⟨rfl, hb5⟩; have G0' := Lib.hid (G0.out.below hb5); have G1' := Lib.hid (G1.out.below hb5); have HB5 := Lib.hid (below_step HBB.out hb5); clear hb5; obtain ⟨g0, g1, g2, g3, g4, g5⟩ := G0'.out; obtain ⟨i0, i1, i2, i3, i4, i5⟩ := G1'.out) | (go_at_call 35; (with_reducible refine (CM2.out _ (H1.out.below HB5.out)).mono ?_); rintro e w6 ⟨rfl, hb6⟩; have G0'' := Lib.hid (G0'.out.below hb6); have G1'' := Lib.hid (G1'.out.below hb6); have HB6 := Lib.hid (below_step HB5.out hb6); clear hb6; obtain ⟨g0, g1, g2, g3, g4, g5⟩ := G0''.out; obtain ⟨i0, i1, i2, i3, i4, i5⟩ := G1''.out))
    all_goals (first | (go_ret2; exact ⟨rfl, HB6.out⟩) | (go_ret; exact ⟨rfl, HB6.out⟩))
  cases ke
  · clear hm
    go_enter Tryz.func65, Tryz.ntmps65
    go_upto_region 1 with (first | ((with_reducible refine gate_dst (N := 2) rfl ?_); (try (refine gate_guard (by rfl) ?_; dsimp only)); refine box_event ?hg (N := 2) ?hd (cs := #[.int .i64 x.f0, .int .i64 x.f1, .int .u64 x.f2, .string x.f3, .slice A4 x.f4.length c4, .slice A5 x.f5.length c5]) (t := 27) ?hr ?_; (case hd => rfl); (case hg => rfl); (case hr => first | (go_simp; done) | (go_simp; rfl)); intro gb hg w3 hbox hb; have BK := Lib.hid hbox; have HB := Lib.hid hb; clear hb hbox hg) | ((with_reducible refine gate_dst (N := 3) rfl ?_); (try (refine gate_guard (by rfl) ?_; dsimp only)); refine box_event ?hg (N := 3) ?hd (cs := #[.int .i64 y.f0, .int .i64 y.f1, .int .u64 y.f2, .string y.f3, .slice B4 y.f4.length d4, .slice B5 y.f5.length d5]) (t := 27) ?hr ?_; (case hd => rfl); (case hg => rfl); (case hr => first | (go_simp; done) | (go_simp; rfl)); intro gb2 hg2 w4 hbox2 hb2; have G0 := Lib.hid ((At.of_box BK.out).below hb2); have G1 := Lib.hid (At.of_box hbox2); have HBB := Lib.hid (below_step HB.out hb2); clear hb2 hbox2 hg2))
    obtain ⟨g0, g1, g2, g3, g4, g5⟩ := G0.out
    obtain ⟨i0, i1, i2, i3, i4, i5⟩ := G1.out
    go_wp2_with (first | (go_at_call 35; (with_reducible refine (CM1.out _ (H0.out.below HBB.out)).mono ?_); rintro e w5 ⟨rfl, hb5⟩; have G0' := Lib.hid (G0.out.below hb5); have G1' := Lib.hid (G1.out.below hb5); have HB5 := Lib.hid (below_step HBB.out hb5); clear hb5; obtain ⟨g0, g1, g2, g3, g4, g5⟩ := G0'.out; obtain ⟨i0, i1, i2, i3, i4, i5⟩ := G1'.out) | (go_at_call 35; (with_reducible refine (CM2.out _ (H1.out.below HB5.out)).mono ?_); rintro e w6 ⟨rfl, hb6⟩; have G0'' := Lib.hid (G0'.out.below hb6); have G1'' := Lib.hid (G1'.out.below hb6); have HB6 := Lib.hid (below_step HB5.out hb6); clear hb6; obtain ⟨g0, g1, g2, g3, g4, g5⟩ := G0''.out; obtain ⟨i0, i1, i2, i3, i4, i5⟩ := G1''.out))
    all_goals (first | (go_ret2; exact ⟨rfl, HB6.out⟩) | (go_ret; exact ⟨rfl, HB6.out⟩))
  (simp only [List.mem_cons, List.not_mem_nil, or_false, Prod.mk.injEq] at hm; rcases hm with ⟨rfl, rfl, rfl, rfl, rfl, rfl, rfl⟩ | ⟨rfl, rfl, rfl, rfl, rfl, rfl, rfl⟩ | ⟨rfl, rfl, rfl, rfl, rfl, rfl, rfl⟩ | ⟨rfl, rfl, rfl, rfl, rfl, rfl, rfl⟩ | ⟨rfl, rfl, rfl, rfl, rfl, rfl, rfl⟩ | ⟨rfl, rfl, rfl, rfl, rfl, rfl, rfl⟩ | ⟨rfl, rfl, rfl, rfl, rfl, rfl, rfl⟩ | ⟨rfl, rfl, rfl, rfl, rfl, rfl, rfl⟩)
  all_goals
    go_enter Tryz.func65, Tryz.ntmps65
    go_upto_region 1 with (first | ((with_reducible refine gate_dst (N := 2) rfl ?_); (try (refine gate_guard (by rfl) ?_; dsimp only)); refine box_event ?hg (N := 2) ?hd (cs := #[.int .i64 x.f0, .int .i64 x.f1, .int .u64 x.f2, .string x.f3, .slice A4 x.f4.length c4, .slice A5 x.f5.length c5]) (t := 27) ?hr ?_; (case hd => rfl); (case hg => rfl); (case hr => first | (go_simp; done) | (go_simp; rfl)); intro gb hg w3 hbox hb; have BK := Lib.hid hbox; have HB := Lib.hid hb; clear hb hbox hg) | ((with_reducible refine gate_dst (N := 3) rfl ?_); (try (refine gate_guard (by rfl) ?_; dsimp only)); refine box_event ?hg (N := 3) ?hd (cs := #[.int .i64 y.f0, .int .i64 y.f1, .int .u64 y.f2, .string y.f3, .slice B4 y.f4.length d4, .slice B5 y.f5.length d5]) (t := 27) ?hr ?_; (case hd => rfl); (case hg => rfl); (case hr => first | (go_simp; done) | (go_simp; rfl)); intro gb2 hg2 w4 hbox2 hb2; have G0 := Lib.hid ((At.of_box BK.out).below hb2); have G1 := Lib.hid (At.of_box hbox2); have HBB := Lib.hid (below_step HB.out hb2); clear hb2 hbox2 hg2))
    obtain ⟨g0, g1, g2, g3, g4, g5⟩ := G0.out
    obtain ⟨i0, i1, i2, i3, i4, i5⟩ := G1.out
    go_wp2_with (first | (go_at_call 35; (with_reducible refine (CM1.out _ (H0.out.below HBB.out)).mono ?_); rintro e w5 ⟨rfl, hb5⟩; have G0' := Lib.hid (G0.out.below hb5); have G1' := Lib.hid (G1.out.below hb5); have HB5 := Lib.hid (below_step HBB.out hb5); clear hb5; obtain ⟨g0, g1, g2, g3, g4, g5⟩ := G0'.out; obtain ⟨i0, i1, i2, i3, i4, i5⟩ := G1'.out) | (go_at_call 35; (with_reducible refine (CM2.out _ (H1.out.below HB5.out)).mono ?_); rintro e w6 ⟨rfl, hb6⟩; have G0'' := Lib.hid (G0'.out.below hb6); have G1'' := Lib.hid (G1'.out.below hb6); have HB6 := Lib.hid (below_step HB5.out hb6); clear hb6; obtain ⟨g0, g1, g2, g3, g4, g5⟩ := G0''.out; obtain ⟨i0, i1, i2, i3, i4, i5⟩ := G1''.out))
    all_goals (first | (go_ret2; exact ⟨rfl, HB6.out⟩) | (go_ret; exact ⟨rfl, HB6.out⟩) | (go_quiet (fail); go_wp2; go_ret2; exact ⟨rfl, pw_below_drewN HB6.out _⟩))
end Go.Proofs.YtdghnfmhcnlppaaGreatDoor.Values
