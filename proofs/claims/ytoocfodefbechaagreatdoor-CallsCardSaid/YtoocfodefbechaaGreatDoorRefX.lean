/- The reference's text, Text and Same, of any trees, walked. -/
import Derived.Test.YtoocfodefbechaaGreatDoorRefS
import Derived.Test.YtoocfodefbechaaGreatDoorCopyV
import Derived.Test.YtoocfodefbechaaGreatDoorRefText
namespace Go.Proofs.YtoocfodefbechaaGreatDoor.Values
open Go.RowKit Go.Proofs.YtoocfodefbechaaGreatDoor.Q Go.Proofs.YtoocfodefbechaaGreatDoor.Real Go.Proofs.YtoocfodefbechaaGreatDoor.RealPure Go.Proofs.YtoocfodefbechaaGreatDoorW.PrintWords Go.Proofs.YtoocfodefbechaaGreatDoorW.PrintLast Go.Proofs.YtoocfodefbechaaGreatDoorW.PrintMore
set_option linter.unusedSimpArgs false
set_option linter.unusedVariables false
set_option maxRecDepth 100000
def tx (x : V) : ByteArray × Bool :=
  if x.f0 == 0 then (⟨#[]⟩, true) else if x.f0 == 1 then (boolT (x.f1 == 1), true) else if x.f0 == 2 then (⟨(Lib.itoa x.f1).toArray⟩, true) else if x.f0 == 3 then (⟨(textL x.f2.toNat).toArray⟩, true) else if x.f0 == 4 then (x.f3, true) else (⟨#[]⟩, false)
set_option maxHeartbeats 8000000 in
set_option maxRecDepth 100000 in
theorem tx_calls (x : V) (A4 : Option Addr) (c4 : Nat) (A5 : Option Addr) (c5 : Nat) (w : World) (h1 : -9223372036854775807 ≤ x.f1 ∧ x.f1 ≤ 9223372036854775807) (h2 : 0 ≤ x.f2) (h2' : x.f2 < 2 ^ 64) :
    Calls Tryz.prog 62 #[arg x A4 c4 A5 c5] w fun e w' => e = .returned (.tuple #[.string (tx x).1, .bool (tx x).2]) ∧ Below w.heap.size w w' := by
  have hu27 := Tryz.underlying27
  have CN := Lib.hid (fun W => stoleref1_Number.calls 25 x.f1 _ W (RefReals.number_f x.f1 h1.1 h1.2 25 (Nat.le_refl _)))
  have CR := Lib.hid (fun W => stoleref1_RealText.calls 75 x.f2 ⟨(textL x.f2.toNat).toArray⟩ W (by have h := RefReals.reftext_f x.f2.toNat (by omega) 75 (Nat.le_refl _); rwa [show ((x.f2.toNat : Nat) : Int) = x.f2 by omega] at h))
  clear h1 h2 h2'
  have HB := Lib.hid (Below.refl w.heap.size w)
  unfold tx
  refine kinds_of x.f0 _ fun b0 b1 b2 b3 b4 b5 b6 e0 e1 e2 e3 e4 e5 e6 hm => ?_
  rw [e0, e1, e2, e3, e4]
  show Calls _ _ #[.agg #[.int .i64 x.f0, .int .i64 x.f1, .int .u64 x.f2, .string x.f3, .slice A4 x.f4.length c4, .slice A5 x.f5.length c5]] _ _
  generalize Lib.itoa x.f1 = ti at *
  generalize textL x.f2.toNat = tr at *
  obtain ⟨q, hq⟩ : ∃ q, (x.f1 == 1) = q := ⟨_, rfl⟩
  rw [hq]
  generalize x.f0 = k at *
  generalize x.f1 = i at *
  generalize x.f2 = u at *
  generalize x.f3 = s at *
  generalize x.f4.length = n4 at *
  generalize x.f5.length = n5 at *
  (simp only [List.mem_cons, List.not_mem_nil, or_false, Prod.mk.injEq] at hm; rcases hm with ⟨rfl, rfl, rfl, rfl, rfl, rfl, rfl⟩ | ⟨rfl, rfl, rfl, rfl, rfl, rfl, rfl⟩ | ⟨rfl, rfl, rfl, rfl, rfl, rfl, rfl⟩ | ⟨rfl, rfl, rfl, rfl, rfl, rfl, rfl⟩ | ⟨rfl, rfl, rfl, rfl, rfl, rfl, rfl⟩ | ⟨rfl, rfl, rfl, rfl, rfl, rfl, rfl⟩ | ⟨rfl, rfl, rfl, rfl, rfl, rfl, rfl⟩ | ⟨rfl, rfl, rfl, rfl, rfl, rfl, rfl⟩)
  all_goals
    cases q
    all_goals
      go_enter Tryz.func62, Tryz.ntmps62
      go_wp2_with (first | ((with_reducible refine gate_dst (N := 1) rfl ?_); (try (refine gate_guard (by rfl) ?_; dsimp only)); refine box_event ?hg (N := 1) ?hd (cs := #[.int .i64 k, .int .i64 i, .int .u64 u, .string s, .slice A4 n4 c4, .slice A5 n5 c5]) (t := 27) ?hr ?_; (case hd => rfl); (case hg => rfl); (case hr => first | (go_simp; done) | (go_simp; rfl)); intro gb hg wgb hbox hb; clear HB; have BK := Lib.hid hbox; have HB := Lib.hid hb; have g0 := (blk_cell hbox 0).trans rfl; have g1 := (blk_cell hbox 1).trans rfl; have g2 := (blk_cell hbox 2).trans rfl; have g3 := (blk_cell hbox 3).trans rfl; have g4 := (blk_cell hbox 4).trans rfl; have g5 := (blk_cell hbox 5).trans rfl; clear hb hbox hg) | (go_at_call 77; (with_reducible refine (CN.out _).mono ?_); rintro e w5 ⟨rfl, hb5⟩; have HB5 := Lib.hid (below_step HB.out hb5); clear hb5; clear HB; have HB := HB5) | (go_at_call 78; (with_reducible refine (CR.out _).mono ?_); rintro e w5 ⟨rfl, hb5⟩; have HB5 := Lib.hid (below_step HB.out hb5); clear hb5; clear HB; have HB := HB5))
      all_goals (go_ret2; exact ⟨by first | rfl | (simp [boolT]; done), HB.out⟩)
theorem tx_own {x : V} (h : ownB x = true) : (tx x).1 = saidS x ∧ (if (tx x).2 = true then (0 : Int) else 402) = saidE x := by
  unfold tx saidS saidE
  refine kinds_of x.f0 _ fun b0 b1 b2 b3 b4 b5 b6 e0 e1 e2 e3 e4 e5 e6 hm => ?_
  have h4 : (x.f0 == 4) = false → x.f3 = ⟨#[]⟩ := by
    intro hf
    unfold ownB plainB at h
    rw [hf] at h
    simp only [Bool.and_eq_true, Bool.or_eq_true, Bool.false_eq_true, false_or] at h
    have hs := eq_of_beq h.1.1.1.1.2
    cases hx : x.f3 with
    | mk a => rw [hx] at hs; rw [Lib.toList_data] at hs; cases a with | mk l => cases l with | nil => rfl | cons c l => cases hs
  rw [e4] at h4
  have ho : b0 = true ∨ b1 = true ∨ b2 = true ∨ b3 = true ∨ b4 = true ∨ b5 = true ∨ b6 = true := by
    unfold ownB at h
    rw [e0, e1, e2, e3, e4, e5, e6] at h
    simp only [Bool.and_eq_true, Bool.or_eq_true] at h
    have h2 := h.2
    clear h h4 hm e0 e1 e2 e3 e4 e5 e6
    revert h2
    cases b0 <;> cases b1 <;> cases b2 <;> cases b3 <;> cases b4 <;> cases b5 <;> cases b6 <;> simp
  rw [e0, e1, e2, e3, e4, e5, e6]
  clear h e0 e1 e2 e3 e4 e5 e6
  simp only [List.mem_cons, List.not_mem_nil, or_false, Prod.mk.injEq] at hm
  rcases hm with ⟨rfl, rfl, rfl, rfl, rfl, rfl, rfl⟩ | ⟨rfl, rfl, rfl, rfl, rfl, rfl, rfl⟩ | ⟨rfl, rfl, rfl, rfl, rfl, rfl, rfl⟩ | ⟨rfl, rfl, rfl, rfl, rfl, rfl, rfl⟩ | ⟨rfl, rfl, rfl, rfl, rfl, rfl, rfl⟩ | ⟨rfl, rfl, rfl, rfl, rfl, rfl, rfl⟩ | ⟨rfl, rfl, rfl, rfl, rfl, rfl, rfl⟩ | ⟨rfl, rfl, rfl, rfl, rfl, rfl, rfl⟩
  all_goals simp_all
set_option maxHeartbeats 8000000 in
set_option maxRecDepth 100000 in
theorem RefText_calls (x : V) (A4 : Option Addr) (c4 : Nat) (A5 : Option Addr) (c5 : Nat) (w : World) (h : Rows4 w x A4 c4 A5 c5) (h2 : 0 ≤ x.f2) (h2' : x.f2 < 2 ^ 64) :
    Calls Tryz.prog 50 #[arg x A4 c4 A5 c5] w fun e w' => e = .returned (.tuple #[.string (if mayB x = true then saidS x else ⟨#[]⟩), .int .i64 (if mayB x = true then saidE x else 400)]) ∧ Below w.heap.size w w' := by
  have hu27 := Tryz.underlying27
  have CM := Lib.hid (show ∀ W, Below w.heap.size w W → Calls Tryz.prog 19 #[.agg #[.int .i64 x.f0, .int .i64 x.f1, .int .u64 x.f2, .string x.f3, .slice A4 x.f4.length c4, .slice A5 x.f5.length c5]] W fun e w' => e = .returned (.bool (mayB x)) ∧ Below W.heap.size W w' from fun W hb => RefMay_calls x A4 c4 A5 c5 W (h.below hb))
  clear h
  by_cases hm : mayB x = true
  · have ho := own_of_may hm
    have hi := int_of_own ho
    have CT := Lib.hid (show ∀ W, Calls Tryz.prog 62 #[.agg #[.int .i64 x.f0, .int .i64 x.f1, .int .u64 x.f2, .string x.f3, .slice A4 x.f4.length c4, .slice A5 x.f5.length c5]] W fun e w' => e = .returned (.tuple #[.string (tx x).1, .bool (tx x).2]) ∧ Below W.heap.size W w' from fun W => tx_calls x A4 c4 A5 c5 W ⟨by omega, by omega⟩ h2 h2')
    obtain ⟨t1, t2⟩ := tx_own ho
    rw [hm] at CM
    rw [if_pos hm, if_pos hm, ← t1, ← t2]
    have hS : (tx x).2 = false → (⟨#[]⟩ : ByteArray) = (tx x).1 := by
      unfold tx
      intro h
      repeat' split at h
      all_goals first | (cases h; done) | skip
      repeat' split
      all_goals first | contradiction | rfl
    clear h2 h2' hi ho hm t1 t2
    show Calls _ _ #[.agg #[.int .i64 x.f0, .int .i64 x.f1, .int .u64 x.f2, .string x.f3, .slice A4 x.f4.length c4, .slice A5 x.f5.length c5]] _ _
    generalize (tx x).1 = S at *
    generalize (tx x).2 = B at *
    cases B
    case false =>
      obtain rfl := hS rfl
      go_enter Tryz.func50, Tryz.ntmps50
      go_wp2_with (first | ((with_reducible refine gate_dst (N := 1) rfl ?_); (try (refine gate_guard (by rfl) ?_; dsimp only)); refine box_event ?hg (N := 1) ?hd (cs := #[.int .i64 x.f0, .int .i64 x.f1, .int .u64 x.f2, .string x.f3, .slice A4 x.f4.length c4, .slice A5 x.f5.length c5]) (t := 27) ?hr ?_; (case hd => rfl); (case hg => rfl); (case hr => first | (go_simp; done) | (go_simp; rfl)); intro gb hg wgb hbox hb; have BK := Lib.hid hbox; have HB := Lib.hid hb; have g0 := (blk_cell hbox 0).trans rfl; have g1 := (blk_cell hbox 1).trans rfl; have g2 := (blk_cell hbox 2).trans rfl; have g3 := (blk_cell hbox 3).trans rfl; have g4 := (blk_cell hbox 4).trans rfl; have g5 := (blk_cell hbox 5).trans rfl; clear hb hbox hg) | (go_at_call 19; (with_reducible refine (CM.out _ HB.out).mono ?_); rintro e w5 ⟨rfl, hb5⟩; have HB5 := Lib.hid (below_step HB.out hb5); have BK5 := Lib.hid (blk_below BK.out hb5); clear hb5; clear HB BK g0 g1 g2 g3 g4 g5; have HB := HB5; have BK := BK5; obtain ⟨g0, g1, g2, g3, g4, g5⟩ := At.of_box BK.out) | (go_at_call 62; (with_reducible refine (CT.out _).mono ?_); rintro e w5 ⟨rfl, hb5⟩; have HB5 := Lib.hid (below_step HB.out hb5); clear hb5; clear HB; have HB := HB5))
      all_goals (go_ret2; exact ⟨rfl, HB.out⟩)
    case true =>
      clear hS
      go_enter Tryz.func50, Tryz.ntmps50
      go_wp2_with (first | ((with_reducible refine gate_dst (N := 1) rfl ?_); (try (refine gate_guard (by rfl) ?_; dsimp only)); refine box_event ?hg (N := 1) ?hd (cs := #[.int .i64 x.f0, .int .i64 x.f1, .int .u64 x.f2, .string x.f3, .slice A4 x.f4.length c4, .slice A5 x.f5.length c5]) (t := 27) ?hr ?_; (case hd => rfl); (case hg => rfl); (case hr => first | (go_simp; done) | (go_simp; rfl)); intro gb hg wgb hbox hb; have BK := Lib.hid hbox; have HB := Lib.hid hb; have g0 := (blk_cell hbox 0).trans rfl; have g1 := (blk_cell hbox 1).trans rfl; have g2 := (blk_cell hbox 2).trans rfl; have g3 := (blk_cell hbox 3).trans rfl; have g4 := (blk_cell hbox 4).trans rfl; have g5 := (blk_cell hbox 5).trans rfl; clear hb hbox hg) | (go_at_call 19; (with_reducible refine (CM.out _ HB.out).mono ?_); rintro e w5 ⟨rfl, hb5⟩; have HB5 := Lib.hid (below_step HB.out hb5); have BK5 := Lib.hid (blk_below BK.out hb5); clear hb5; clear HB BK g0 g1 g2 g3 g4 g5; have HB := HB5; have BK := BK5; obtain ⟨g0, g1, g2, g3, g4, g5⟩ := At.of_box BK.out) | (go_at_call 62; (with_reducible refine (CT.out _).mono ?_); rintro e w5 ⟨rfl, hb5⟩; have HB5 := Lib.hid (below_step HB.out hb5); clear hb5; clear HB; have HB := HB5))
      all_goals (go_ret2; exact ⟨rfl, HB.out⟩)
  · have hf : mayB x = false := by simpa using hm
    rw [hf] at CM
    rw [if_neg hm, if_neg hm]
    clear h2 h2' hm hf
    show Calls _ _ #[.agg #[.int .i64 x.f0, .int .i64 x.f1, .int .u64 x.f2, .string x.f3, .slice A4 x.f4.length c4, .slice A5 x.f5.length c5]] _ _
    go_enter Tryz.func50, Tryz.ntmps50
    go_wp2_with (first | ((with_reducible refine gate_dst (N := 1) rfl ?_); (try (refine gate_guard (by rfl) ?_; dsimp only)); refine box_event ?hg (N := 1) ?hd (cs := #[.int .i64 x.f0, .int .i64 x.f1, .int .u64 x.f2, .string x.f3, .slice A4 x.f4.length c4, .slice A5 x.f5.length c5]) (t := 27) ?hr ?_; (case hd => rfl); (case hg => rfl); (case hr => first | (go_simp; done) | (go_simp; rfl)); intro gb hg wgb hbox hb; have BK := Lib.hid hbox; have HB := Lib.hid hb; have g0 := (blk_cell hbox 0).trans rfl; have g1 := (blk_cell hbox 1).trans rfl; have g2 := (blk_cell hbox 2).trans rfl; have g3 := (blk_cell hbox 3).trans rfl; have g4 := (blk_cell hbox 4).trans rfl; have g5 := (blk_cell hbox 5).trans rfl; clear hb hbox hg) | (go_at_call 19; (with_reducible refine (CM.out _ HB.out).mono ?_); rintro e w5 ⟨rfl, hb5⟩; have HB5 := Lib.hid (below_step HB.out hb5); have BK5 := Lib.hid (blk_below BK.out hb5); clear hb5; clear HB BK g0 g1 g2 g3 g4 g5; have HB := HB5; have BK := BK5; obtain ⟨g0, g1, g2, g3, g4, g5⟩ := At.of_box BK.out))
    all_goals (go_ret2; exact ⟨by first | rfl | (simp; done), HB.out⟩)
set_option maxHeartbeats 8000000 in
set_option maxRecDepth 100000 in
theorem RefSame_calls (x y : V) (A4 : Option Addr) (c4 : Nat) (A5 : Option Addr) (c5 : Nat) (B4 : Option Addr) (d4 : Nat) (B5 : Option Addr) (d5 : Nat) (w : World) (h : Rows4 w x A4 c4 A5 c5) (h' : Rows4 w y B4 d4 B5 d5) (hr : rngD 8 x) (hr' : rngD 8 y) :
    Calls Tryz.prog 23 #[arg x A4 c4 A5 c5, arg y B4 d4 B5 d5] w fun e w' => e = .returned (.bool (mayB x && (mayB y && refS 8 x y))) ∧ Below w.heap.size w w' := by
  have hu27 := Tryz.underlying27
  have CX := Lib.hid (show ∀ W, Below w.heap.size w W → Calls Tryz.prog 19 #[.agg #[.int .i64 x.f0, .int .i64 x.f1, .int .u64 x.f2, .string x.f3, .slice A4 x.f4.length c4, .slice A5 x.f5.length c5]] W fun e w' => e = .returned (.bool (mayB x)) ∧ Below W.heap.size W w' from fun W hb => RefMay_calls x A4 c4 A5 c5 W (h.below hb))
  have CY := Lib.hid (show ∀ W, Below w.heap.size w W → Calls Tryz.prog 19 #[.agg #[.int .i64 y.f0, .int .i64 y.f1, .int .u64 y.f2, .string y.f3, .slice B4 y.f4.length d4, .slice B5 y.f5.length d5]] W fun e w' => e = .returned (.bool (mayB y)) ∧ Below W.heap.size W w' from fun W hb => RefMay_calls y B4 d4 B5 d5 W (h'.below hb))
  have CS := Lib.hid (show mayB x = true → ∀ W, Below w.heap.size w W → Calls Tryz.prog 47 #[.agg #[.int .i64 x.f0, .int .i64 x.f1, .int .u64 x.f2, .string x.f3, .slice A4 x.f4.length c4, .slice A5 x.f5.length c5], .agg #[.int .i64 y.f0, .int .i64 y.f1, .int .u64 y.f2, .string y.f3, .slice B4 y.f4.length d4, .slice B5 y.f5.length d5]] W fun e w' => e = .returned (.bool (refS 8 x y)) ∧ Below W.heap.size W w' from fun hm W hb => rs_all 8 x y A4 c4 A5 c5 B4 d4 B5 d5 W (may_deep hm) hr hr' (h.below hb) (h'.below hb))
  clear h h' hr hr'
  show Calls _ _ #[.agg #[.int .i64 x.f0, .int .i64 x.f1, .int .u64 x.f2, .string x.f3, .slice A4 x.f4.length c4, .slice A5 x.f5.length c5], .agg #[.int .i64 y.f0, .int .i64 y.f1, .int .u64 y.f2, .string y.f3, .slice B4 y.f4.length d4, .slice B5 y.f5.length d5]] _ _
  generalize refS 8 x y = R at *
  generalize mayB x = mx at *
  generalize mayB y = my at *
  cases mx
  all_goals cases my
  all_goals
    go_enter Tryz.func23, Tryz.ntmps23
    go_wp2_with (first | ((with_reducible refine gate_dst (N := 2) rfl ?_); (try (refine gate_guard (by rfl) ?_; dsimp only)); refine box_event ?hg (N := 2) ?hd (cs := #[.int .i64 x.f0, .int .i64 x.f1, .int .u64 x.f2, .string x.f3, .slice A4 x.f4.length c4, .slice A5 x.f5.length c5]) (t := 27) ?hr ?_; (case hd => rfl); (case hg => rfl); (case hr => first | (go_simp; done) | (go_simp; rfl)); intro gb hg wgb hbox hb; have BK := Lib.hid hbox; have HB := Lib.hid hb; clear hb hbox hg) | ((with_reducible refine gate_dst (N := 3) rfl ?_); (try (refine gate_guard (by rfl) ?_; dsimp only)); refine box_event ?hg (N := 3) ?hd (cs := #[.int .i64 y.f0, .int .i64 y.f1, .int .u64 y.f2, .string y.f3, .slice B4 y.f4.length d4, .slice B5 y.f5.length d5]) (t := 27) ?hr ?_; (case hd => rfl); (case hg => rfl); (case hr => first | (go_simp; done) | (go_simp; rfl)); intro gc hg wgc hbox hb; have BX := Lib.hid (blk_below BK.out hb); have BY := Lib.hid hbox; have HB2 := Lib.hid (below_step HB.out hb); obtain ⟨a0, a1, a2, a3, a4, a5⟩ := At.of_box BX.out; obtain ⟨b0, b1, b2, b3, b4, b5⟩ := At.of_box BY.out; clear hb hbox hg) | (go_at_call 19; (with_reducible refine (CX.out _ HB2.out).mono ?_); rintro e wn ⟨rfl, hbn⟩; have HBn := Lib.hid (below_step HB2.out hbn); have BXn := Lib.hid (blk_below BX.out hbn); have BYn := Lib.hid (blk_below BY.out hbn); clear HB2 BX BY; have HB2 := HBn; have BX := BXn; have BY := BYn; clear HBn BXn BYn hbn; clear a0 a1 a2 a3 a4 a5 b0 b1 b2 b3 b4 b5; obtain ⟨a0, a1, a2, a3, a4, a5⟩ := At.of_box BX.out; obtain ⟨b0, b1, b2, b3, b4, b5⟩ := At.of_box BY.out) | (go_at_call 19; (with_reducible refine (CY.out _ HB2.out).mono ?_); rintro e wn ⟨rfl, hbn⟩; have HBn := Lib.hid (below_step HB2.out hbn); have BXn := Lib.hid (blk_below BX.out hbn); have BYn := Lib.hid (blk_below BY.out hbn); clear HB2 BX BY; have HB2 := HBn; have BX := BXn; have BY := BYn; clear HBn BXn BYn hbn; clear a0 a1 a2 a3 a4 a5 b0 b1 b2 b3 b4 b5; obtain ⟨a0, a1, a2, a3, a4, a5⟩ := At.of_box BX.out; obtain ⟨b0, b1, b2, b3, b4, b5⟩ := At.of_box BY.out) | (go_at_call 47; (with_reducible refine (CS.out (by first | trivial | rfl) _ HB2.out).mono ?_); rintro e wn ⟨rfl, hbn⟩; have HBn := Lib.hid (below_step HB2.out hbn); have BXn := Lib.hid (blk_below BX.out hbn); have BYn := Lib.hid (blk_below BY.out hbn); clear HB2 BX BY; have HB2 := HBn; have BX := BXn; have BY := BYn; clear HBn BXn BYn hbn; clear a0 a1 a2 a3 a4 a5 b0 b1 b2 b3 b4 b5; obtain ⟨a0, a1, a2, a3, a4, a5⟩ := At.of_box BX.out; obtain ⟨b0, b1, b2, b3, b4, b5⟩ := At.of_box BY.out))
    all_goals (go_ret; exact ⟨by first | rfl | (simp; done), HB2.out⟩)
end Go.Proofs.YtoocfodefbechaaGreatDoor.Values
