/- SameTexts, and SameValue of any trees, walked. -/
import Derived.Test.YtdghnfmhcnlppaaGreatDoorValues
import Derived.Test.YtdghnfmhcnlppaaGreatDoorQ2
namespace Go.Proofs.YtdghnfmhcnlppaaGreatDoor.Values
open Go.RowKit Go.Proofs.YtdghnfmhcnlppaaGreatDoor.Q Go.Proofs.YtdghnfmhcnlppaaGreatDoor.Real Go.Proofs.YtdghnfmhcnlppaaGreatDoor.RealPure Go.Proofs.YtdghnfmhcnlppaaGreatDoorW.PrintWords Go.Proofs.YtdghnfmhcnlppaaGreatDoorW.PrintLast Go.Proofs.YtdghnfmhcnlppaaGreatDoorW.PrintMore
set_option linter.unusedSimpArgs false
set_option linter.unusedVariables false

def textsB (l l' : List ByteArray) : Bool := decide (l.length = l'.length) && eqFrom l l' l.length 0
theorem texts_total (l l' : List ByteArray) (hl : l.length ≤ 9223372036854775807) (hn : l.length = l'.length) : ∀ m i, i + m = l.length → stolelaw0_SameTexts.l0 (m + 1) l l' (i : Int) = some (eqFrom l l' m i)
  | 0, i, h => by
    unfold stolelaw0_SameTexts.l0
    rw [if_neg (by omega)]
    rfl
  | m + 1, i, h => by
    have ih := texts_total l l' hl hn m (i + 1) (by omega)
    unfold stolelaw0_SameTexts.l0
    rw [if_pos (by omega), if_pos (by omega), if_pos (by omega)]
    show _ = some (((l.getD i ByteArray.empty).toList == (l'.getD i ByteArray.empty).toList) && eqFrom l l' m (i + 1))
    have e1 : ∀ z : List ByteArray, rdOf ByteArray.empty z (i : Int) = z.getD i ByteArray.empty := fun _ => rfl
    have e2 : wrap64 ((i : Int) + 1) = ((i + 1 : Nat) : Int) := by rw [wrap_small _ (by omega) (by omega)]; rfl
    rw [e1, e1, e2, ih]
    by_cases c : (l.getD i ByteArray.empty).toList = (l'.getD i ByteArray.empty).toList
    · rw [if_pos c, beq_iff_eq.2 c]; rfl
    · rw [if_neg c, beq_eq_false_iff_ne.2 c]; rfl
theorem texts_calls (A : Option Addr) (c : Nat) (l : List ByteArray) (A' : Option Addr) (c' : Nat) (l' : List ByteArray) (w : World) (hr : Kd.C Kd.string w A l.length l) (hc : l.length ≤ c) (hr' : Kd.C Kd.string w A' l'.length l') (hc' : l'.length ≤ c') :
    Calls Tryz.prog 28 #[.slice A l.length c, .slice A' l'.length c'] w fun e w' => e = .returned (.bool (textsB l l')) ∧ Drawn0 w w' := by
  refine stolelaw0_SameTexts.calls (l.length + 1) A c l A' c' l' (textsB l l') w hr hc hr' hc' ?_
  unfold stolelaw0_SameTexts.f textsB
  by_cases hn : l.length = l'.length
  · rw [if_pos (by omega), decide_eq_true hn]
    exact texts_total l l' hr.2.1 hn l.length 0 (by omega)
  · rw [if_neg (by omega), decide_eq_false hn]; rfl

/-- All of it, field by field, so deep. -/
def svD : Nat → V → V → Bool
  | 0, _, _ => false
  | d + 1, x, y => (x.f0 == y.f0) && ((x.f1 == y.f1) && ((x.f2 == y.f2) && ((x.f3.toList == y.f3.toList) && (((x.f4.length : Int) == (y.f4.length : Int)) && (textsB x.f5 y.f5 && sameL (svD d) x.f4 y.f4)))))
def deepD : Nat → V → Prop
  | 0, _ => False
  | d + 1, x => ∀ z ∈ x.f4, deepD d z
theorem deep_mono : ∀ d x, deepD d x → deepD (d + 1) x
  | 0, x, h => h.elim
  | d + 1, x, h => fun z hz => deep_mono d z (h z hz)
theorem deep_le {d d' : Nat} {x : V} (h : deepD d x) (hd : d ≤ d') : deepD d' x := by
  induction hd with
  | refl => exact h
  | step _ ih => exact deep_mono _ _ ih
theorem deep_any (x : V) : ∃ d, deepD d x := by
  refine S27.rec (motive_1 := fun x => ∃ d, deepD d x) (motive_2 := fun l => ∃ d, ∀ z ∈ l, deepD d z) ?_ ?_ ?_ x
  · rintro f0 f1 f2 f3 f4 f5 ⟨d, hd⟩
    exact ⟨d + 1, hd⟩
  · exact ⟨0, fun z hz => by cases hz⟩
  · rintro y ys ⟨d, hd⟩ ⟨d', hd'⟩
    refine ⟨d + d', fun z hz => ?_⟩
    rcases List.mem_cons.1 hz with rfl | hz
    · exact deep_le hd (by omega)
    · exact deep_le (hd' z hz) (by omega)
def SvC (d : Nat) : Prop := ∀ (x y : V) (A4 : Option Addr) (c4 : Nat) (A5 : Option Addr) (c5 : Nat) (B4 : Option Addr) (d4 : Nat) (B5 : Option Addr) (d5 : Nat) (w : World), deepD d x → Rows4 w x A4 c4 A5 c5 → Rows4 w y B4 d4 B5 d5 →
    Calls Tryz.prog 10 #[arg x A4 c4 A5 c5, arg y B4 d4 B5 d5] w fun e w' => e = .returned (.bool (svD d x y)) ∧ Below w.heap.size w w'

theorem beq_ne {α : Type} [BEq α] [LawfulBEq α] {a b : α} {q : Bool} (h : (a == b) = q) : (a != b) = !q := by rw [bne, h]
set_option maxHeartbeats 16000000 in
set_option maxRecDepth 100000 in
theorem sv_succ (d : Nat) (ih : SvC d) : SvC (d + 1) := by
  intro x y A4 c4 A5 c5 B4 d4 B5 d5 w hdx h h'
  have hu27 := Tryz.underlying27
  have IH := Lib.hid ih
  have DX := Lib.hid hdx
  have KX := Lib.hid h.k4
  have KY := Lib.hid h'.k4
  have HLEN := Lib.hid h.k4.2.1
  have CT := Lib.hid (fun W (hb : Below w.heap.size w W) => texts_calls A5 c5 x.f5 B5 d5 y.f5 W (Kd.C_below h.k5 hb) h.l5 (Kd.C_below h'.k5 hb) h'.l5)
  clear h h' ih hdx
  unfold svD
  show Calls _ _ #[.agg #[.int .i64 x.f0, .int .i64 x.f1, .int .u64 x.f2, .string x.f3, .slice A4 x.f4.length c4, .slice A5 x.f5.length c5], .agg #[.int .i64 y.f0, .int .i64 y.f1, .int .u64 y.f2, .string y.f3, .slice B4 y.f4.length d4, .slice B5 y.f5.length d5]] _ _
  generalize h0 : (x.f0 == y.f0) = q0
  have n0 := beq_ne h0
  cases q0
  case false =>
    clear CT
    go_enter Tryz.func10, Tryz.ntmps10
    go_wp2_with (first | ((with_reducible refine gate_dst (N := 2) rfl ?_); (try (refine gate_guard (by rfl) ?_; dsimp only)); refine box_event ?hg (N := 2) ?hd (cs := #[.int .i64 x.f0, .int .i64 x.f1, .int .u64 x.f2, .string x.f3, .slice A4 x.f4.length c4, .slice A5 x.f5.length c5]) (t := 27) ?hr ?_; (case hd => rfl); (case hg => rfl); (case hr => first | (go_simp; done) | (go_simp; rfl)); intro gb hg wgb hbox hb; have BK := Lib.hid hbox; have HB := Lib.hid hb; clear hb hbox hg) | ((with_reducible refine gate_dst (N := 3) rfl ?_); (try (refine gate_guard (by rfl) ?_; dsimp only)); refine box_event ?hg (N := 3) ?hd (cs := #[.int .i64 y.f0, .int .i64 y.f1, .int .u64 y.f2, .string y.f3, .slice B4 y.f4.length d4, .slice B5 y.f5.length d5]) (t := 27) ?hr ?_; (case hd => rfl); (case hg => rfl); (case hr => first | (go_simp; done) | (go_simp; rfl)); intro gc hg wgc hbox hb; have BX := Lib.hid (blk_below BK.out hb); have BY := Lib.hid hbox; have HB2 := Lib.hid (below_step HB.out hb); obtain ⟨a0, a1, a2, a3, a4, a5⟩ := At.of_box BX.out; obtain ⟨b0, b1, b2, b3, b4, b5⟩ := At.of_box BY.out; clear hb hbox hg))
    all_goals (go_ret; exact ⟨rfl, HB2.out⟩)
  generalize h1 : (x.f1 == y.f1) = q1
  have n1 := beq_ne h1
  cases q1
  case false =>
    clear CT
    go_enter Tryz.func10, Tryz.ntmps10
    go_wp2_with (first | ((with_reducible refine gate_dst (N := 2) rfl ?_); (try (refine gate_guard (by rfl) ?_; dsimp only)); refine box_event ?hg (N := 2) ?hd (cs := #[.int .i64 x.f0, .int .i64 x.f1, .int .u64 x.f2, .string x.f3, .slice A4 x.f4.length c4, .slice A5 x.f5.length c5]) (t := 27) ?hr ?_; (case hd => rfl); (case hg => rfl); (case hr => first | (go_simp; done) | (go_simp; rfl)); intro gb hg wgb hbox hb; have BK := Lib.hid hbox; have HB := Lib.hid hb; clear hb hbox hg) | ((with_reducible refine gate_dst (N := 3) rfl ?_); (try (refine gate_guard (by rfl) ?_; dsimp only)); refine box_event ?hg (N := 3) ?hd (cs := #[.int .i64 y.f0, .int .i64 y.f1, .int .u64 y.f2, .string y.f3, .slice B4 y.f4.length d4, .slice B5 y.f5.length d5]) (t := 27) ?hr ?_; (case hd => rfl); (case hg => rfl); (case hr => first | (go_simp; done) | (go_simp; rfl)); intro gc hg wgc hbox hb; have BX := Lib.hid (blk_below BK.out hb); have BY := Lib.hid hbox; have HB2 := Lib.hid (below_step HB.out hb); obtain ⟨a0, a1, a2, a3, a4, a5⟩ := At.of_box BX.out; obtain ⟨b0, b1, b2, b3, b4, b5⟩ := At.of_box BY.out; clear hb hbox hg))
    all_goals (go_ret; exact ⟨rfl, HB2.out⟩)
  generalize h2 : (x.f2 == y.f2) = q2
  have n2 := beq_ne h2
  cases q2
  case false =>
    clear CT
    go_enter Tryz.func10, Tryz.ntmps10
    go_wp2_with (first | ((with_reducible refine gate_dst (N := 2) rfl ?_); (try (refine gate_guard (by rfl) ?_; dsimp only)); refine box_event ?hg (N := 2) ?hd (cs := #[.int .i64 x.f0, .int .i64 x.f1, .int .u64 x.f2, .string x.f3, .slice A4 x.f4.length c4, .slice A5 x.f5.length c5]) (t := 27) ?hr ?_; (case hd => rfl); (case hg => rfl); (case hr => first | (go_simp; done) | (go_simp; rfl)); intro gb hg wgb hbox hb; have BK := Lib.hid hbox; have HB := Lib.hid hb; clear hb hbox hg) | ((with_reducible refine gate_dst (N := 3) rfl ?_); (try (refine gate_guard (by rfl) ?_; dsimp only)); refine box_event ?hg (N := 3) ?hd (cs := #[.int .i64 y.f0, .int .i64 y.f1, .int .u64 y.f2, .string y.f3, .slice B4 y.f4.length d4, .slice B5 y.f5.length d5]) (t := 27) ?hr ?_; (case hd => rfl); (case hg => rfl); (case hr => first | (go_simp; done) | (go_simp; rfl)); intro gc hg wgc hbox hb; have BX := Lib.hid (blk_below BK.out hb); have BY := Lib.hid hbox; have HB2 := Lib.hid (below_step HB.out hb); obtain ⟨a0, a1, a2, a3, a4, a5⟩ := At.of_box BX.out; obtain ⟨b0, b1, b2, b3, b4, b5⟩ := At.of_box BY.out; clear hb hbox hg))
    all_goals (go_ret; exact ⟨rfl, HB2.out⟩)
  generalize h3 : (x.f3.toList == y.f3.toList) = q3
  have n3 := beq_ne h3
  cases q3
  case false =>
    clear CT
    go_enter Tryz.func10, Tryz.ntmps10
    go_wp2_with (first | ((with_reducible refine gate_dst (N := 2) rfl ?_); (try (refine gate_guard (by rfl) ?_; dsimp only)); refine box_event ?hg (N := 2) ?hd (cs := #[.int .i64 x.f0, .int .i64 x.f1, .int .u64 x.f2, .string x.f3, .slice A4 x.f4.length c4, .slice A5 x.f5.length c5]) (t := 27) ?hr ?_; (case hd => rfl); (case hg => rfl); (case hr => first | (go_simp; done) | (go_simp; rfl)); intro gb hg wgb hbox hb; have BK := Lib.hid hbox; have HB := Lib.hid hb; clear hb hbox hg) | ((with_reducible refine gate_dst (N := 3) rfl ?_); (try (refine gate_guard (by rfl) ?_; dsimp only)); refine box_event ?hg (N := 3) ?hd (cs := #[.int .i64 y.f0, .int .i64 y.f1, .int .u64 y.f2, .string y.f3, .slice B4 y.f4.length d4, .slice B5 y.f5.length d5]) (t := 27) ?hr ?_; (case hd => rfl); (case hg => rfl); (case hr => first | (go_simp; done) | (go_simp; rfl)); intro gc hg wgc hbox hb; have BX := Lib.hid (blk_below BK.out hb); have BY := Lib.hid hbox; have HB2 := Lib.hid (below_step HB.out hb); obtain ⟨a0, a1, a2, a3, a4, a5⟩ := At.of_box BX.out; obtain ⟨b0, b1, b2, b3, b4, b5⟩ := At.of_box BY.out; clear hb hbox hg))
    all_goals (go_ret; exact ⟨rfl, HB2.out⟩)
  generalize h4 : ((x.f4.length : Int) == (y.f4.length : Int)) = q4
  have n4 := beq_ne h4
  cases q4
  case false =>
    clear CT
    go_enter Tryz.func10, Tryz.ntmps10
    go_wp2_with (first | ((with_reducible refine gate_dst (N := 2) rfl ?_); (try (refine gate_guard (by rfl) ?_; dsimp only)); refine box_event ?hg (N := 2) ?hd (cs := #[.int .i64 x.f0, .int .i64 x.f1, .int .u64 x.f2, .string x.f3, .slice A4 x.f4.length c4, .slice A5 x.f5.length c5]) (t := 27) ?hr ?_; (case hd => rfl); (case hg => rfl); (case hr => first | (go_simp; done) | (go_simp; rfl)); intro gb hg wgb hbox hb; have BK := Lib.hid hbox; have HB := Lib.hid hb; clear hb hbox hg) | ((with_reducible refine gate_dst (N := 3) rfl ?_); (try (refine gate_guard (by rfl) ?_; dsimp only)); refine box_event ?hg (N := 3) ?hd (cs := #[.int .i64 y.f0, .int .i64 y.f1, .int .u64 y.f2, .string y.f3, .slice B4 y.f4.length d4, .slice B5 y.f5.length d5]) (t := 27) ?hr ?_; (case hd => rfl); (case hg => rfl); (case hr => first | (go_simp; done) | (go_simp; rfl)); intro gc hg wgc hbox hb; have BX := Lib.hid (blk_below BK.out hb); have BY := Lib.hid hbox; have HB2 := Lib.hid (below_step HB.out hb); obtain ⟨a0, a1, a2, a3, a4, a5⟩ := At.of_box BX.out; obtain ⟨b0, b1, b2, b3, b4, b5⟩ := At.of_box BY.out; clear hb hbox hg))
    all_goals (go_ret; exact ⟨rfl, HB2.out⟩)
  generalize textsB x.f5 y.f5 = q5 at *
  cases q5
  case false =>
    go_enter Tryz.func10, Tryz.ntmps10
    go_wp2_with (first | ((with_reducible refine gate_dst (N := 2) rfl ?_); (try (refine gate_guard (by rfl) ?_; dsimp only)); refine box_event ?hg (N := 2) ?hd (cs := #[.int .i64 x.f0, .int .i64 x.f1, .int .u64 x.f2, .string x.f3, .slice A4 x.f4.length c4, .slice A5 x.f5.length c5]) (t := 27) ?hr ?_; (case hd => rfl); (case hg => rfl); (case hr => first | (go_simp; done) | (go_simp; rfl)); intro gb hg wgb hbox hb; have BK := Lib.hid hbox; have HB := Lib.hid hb; clear hb hbox hg) | ((with_reducible refine gate_dst (N := 3) rfl ?_); (try (refine gate_guard (by rfl) ?_; dsimp only)); refine box_event ?hg (N := 3) ?hd (cs := #[.int .i64 y.f0, .int .i64 y.f1, .int .u64 y.f2, .string y.f3, .slice B4 y.f4.length d4, .slice B5 y.f5.length d5]) (t := 27) ?hr ?_; (case hd => rfl); (case hg => rfl); (case hr => first | (go_simp; done) | (go_simp; rfl)); intro gc hg wgc hbox hb; have BX := Lib.hid (blk_below BK.out hb); have BY := Lib.hid hbox; have HB2 := Lib.hid (below_step HB.out hb); obtain ⟨a0, a1, a2, a3, a4, a5⟩ := At.of_box BX.out; obtain ⟨b0, b1, b2, b3, b4, b5⟩ := At.of_box BY.out; clear hb hbox hg) | (go_at_call 28; (with_reducible refine (CT.out _ HB2.out).mono ?_); rintro e w5 ⟨rfl, ⟨nd, rfl⟩⟩; have BX5 := Lib.hid (blk_drewN BX.out nd); have BY5 := Lib.hid (blk_drewN BY.out nd); have HB5 := Lib.hid (pw_below_drewN HB2.out nd); clear a0 a1 a2 a3 a4 a5 b0 b1 b2 b3 b4 b5; obtain ⟨a0, a1, a2, a3, a4, a5⟩ := At.of_box BX5.out; obtain ⟨b0, b1, b2, b3, b4, b5⟩ := At.of_box BY5.out))
    all_goals (go_ret; exact ⟨rfl, HB5.out⟩)
  have hln : (y.f4.length : Int) = (x.f4.length : Int) := (eq_of_beq h4).symm
  have HLN := Lib.hid hln
  clear hln
  obtain ⟨R, hR⟩ : ∃ R, sameL (svD d) x.f4 y.f4 = R := ⟨_, rfl⟩
  rw [hR]
  have HRR := Lib.hid hR
  clear hR
  go_enter Tryz.func10, Tryz.ntmps10
  go_wp2_with (first | ((with_reducible refine gate_dst (N := 2) rfl ?_); (try (refine gate_guard (by rfl) ?_; dsimp only)); refine box_event ?hg (N := 2) ?hd (cs := #[.int .i64 x.f0, .int .i64 x.f1, .int .u64 x.f2, .string x.f3, .slice A4 x.f4.length c4, .slice A5 x.f5.length c5]) (t := 27) ?hr ?_; (case hd => rfl); (case hg => rfl); (case hr => first | (go_simp; done) | (go_simp; rfl)); intro gb hg wgb hbox hb; have BK := Lib.hid hbox; have HB := Lib.hid hb; clear hb hbox hg) | ((with_reducible refine gate_dst (N := 3) rfl ?_); (try (refine gate_guard (by rfl) ?_; dsimp only)); refine box_event ?hg (N := 3) ?hd (cs := #[.int .i64 y.f0, .int .i64 y.f1, .int .u64 y.f2, .string y.f3, .slice B4 y.f4.length d4, .slice B5 y.f5.length d5]) (t := 27) ?hr ?_; (case hd => rfl); (case hg => rfl); (case hr => first | (go_simp; done) | (go_simp; rfl)); intro gc hg wgc hbox hb; have BX := Lib.hid (blk_below BK.out hb); have BY := Lib.hid hbox; have HB2 := Lib.hid (below_step HB.out hb); obtain ⟨a0, a1, a2, a3, a4, a5⟩ := At.of_box BX.out; obtain ⟨b0, b1, b2, b3, b4, b5⟩ := At.of_box BY.out; clear hb hbox hg) | (go_at_call 28; (with_reducible refine (CT.out _ HB2.out).mono ?_); rintro e w5 ⟨rfl, ⟨nd, rfl⟩⟩; have BX5 := Lib.hid (blk_drewN BX.out nd); have BY5 := Lib.hid (blk_drewN BY.out nd); have HB5 := Lib.hid (pw_below_drewN HB2.out nd); clear a0 a1 a2 a3 a4 a5 b0 b1 b2 b3 b4 b5; obtain ⟨a0, a1, a2, a3, a4, a5⟩ := At.of_box BX5.out; obtain ⟨b0, b1, b2, b3, b4, b5⟩ := At.of_box BY5.out))
  skip
  clear a0 a1 a2 a3 a5 b0 b1 b2 b3 b5
  go_loopg [5] x.f4.length (fun kq v5 w' => ∃ (i : Int), v5 = .int .i64 i ∧ Aside0 (i + kq = x.f4.length ∧ 0 ≤ i) ∧ Aside0 (sameL (svD d) (x.f4.drop i.toNat) (y.f4.drop i.toNat) = R) ∧ Aside0 (w'.heap[gb]? = some (.cells #[.int .i64 x.f0, .int .i64 x.f1, .int .u64 x.f2, .string x.f3, .slice A4 x.f4.length c4, .slice A5 x.f5.length c5] 27 (0, 0))) ∧ Aside0 (w'.heap[gc]? = some (.cells #[.int .i64 y.f0, .int .i64 y.f1, .int .u64 y.f2, .string y.f3, .slice B4 y.f4.length d4, .slice B5 y.f5.length d5] 27 (0, 0))) ∧ Aside0 (Below w.heap.size w w'))
  case atStart => exact ⟨0, rfl, ⟨by omega, by omega⟩, ⟨HRR.out⟩, ⟨BX5.out⟩, ⟨BY5.out⟩, ⟨HB5.out⟩⟩
  case round =>
    have LEN := HLEN.out
    have ELN := HLN.out
    obtain ⟨i, rfl, HI, HM, BXr, BYr, HBr⟩ := hrel
    obtain ⟨hi1, hi0⟩ := HI.out
    clear a4 b4
    have a4 : wr.cell? ⟨gb, 4, none⟩ = some (.slice A4 x.f4.length c4) := (blk_cell BXr.out 4).trans rfl
    have b4 : wr.cell? ⟨gc, 4, none⟩ = some (.slice B4 y.f4.length d4) := (blk_cell BYr.out 4).trans rfl
    cases gk with
    | zero =>
      have hlt : decide (i < (x.f4.length : Int)) = false := decide_eq_false (by omega)
      have e := HM.out
      rw [List.drop_of_length_le (by omega), List.drop_of_length_le (by omega)] at e
      have e1 : R = true := e.symm
      subst e1
      clear e hi1 hi0 LEN ELN
      go_wp2
      all_goals (go_ret; exact ⟨rfl, HBr.out⟩)
    | succ k2 =>
      have hlt : decide (i < (x.f4.length : Int)) = true := decide_eq_true (by omega)
      have hx : i < (x.f4.length : Int) := by omega
      have hy : i < (y.f4.length : Int) := by omega
      have hstep := sameL_drop (svD d) x.f4 y.f4 i.toNat (by omega) (by omega)
      rw [HM.out] at hstep
      have er : ∀ z : List V, rd_T27 z (i.toNat : Nat) = rd_T27 z i := fun z => by unfold rd_T27; rfl
      rw [er, er, show i.toNat + 1 = (i + 1).toNat by omega] at hstep
      have hbd := below_drew (Below.refl wr.heap.size wr)
      obtain ⟨ad, E4, e4, E5, e5, ea, hAt, hl4, hk4, hl5, hk5⟩ := At.of_elem (Kd.C_below KX.out HBr.out) i hi0 hx
      obtain ⟨ad', F4, f4, F5, f5, ea', hAt', hl4', hk4', hl5', hk5'⟩ := At.of_elem (Kd.C_below KY.out HBr.out) i hi0 hy
      have hmem := rd_mem x.f4 i hi0 hx
      have CI := Lib.hid (fun W (hb : Below wr.heap.size wr W) => IH.out (rd_T27 x.f4 i) (rd_T27 y.f4 i) E4 e4 E5 e5 F4 f4 F5 f5 W (DX.out _ hmem) (Rows4.below ⟨hk4, hl4, hk5, hl5⟩ hb) (Rows4.below ⟨hk4', hl4', hk5', hl5'⟩ hb))
      have HBD := Lib.hid hbd
      obtain ⟨q0, q1, q2, q3, q4, q5⟩ := hAt
      obtain ⟨p0, p1, p2, p3, p4, p5⟩ := hAt'
      have wi : wrap64 (i + 1) = i + 1 := wrap_small _ (by omega) (by omega)
      have wi' : IntKind.i64.wrap (i + 1) = i + 1 := by rw [i64_w]; exact wi
      have HI2 := Aside0.mk (show i + 1 + k2 = x.f4.length ∧ 0 ≤ i + 1 from ⟨by omega, by omega⟩)
      have z0 := eq_true hi0; have z1 := eq_true hx; have z2 := eq_true hy
      subst ea ea'
      generalize svD d (rd_T27 x.f4 i) (rd_T27 y.f4 i) = M at CI hstep
      generalize rd_T27 x.f4 i = xi at *
      generalize rd_T27 y.f4 i = yi at *
      obtain ⟨x0, x1, x2, x3, x4, x5⟩ := xi
      obtain ⟨y0, y1, y2, y3, y4, y5⟩ := yi
      simp only at q0 q1 q2 q3 q4 q5 p0 p1 p2 p3 p4 p5
      have HST := Lib.hid hstep
      clear hstep er hl4 hk4 hl5 hk5 hl4' hk4' hl5' hk5' hi1 hi0 LEN ELN hx hy HM hmem
      have d4' := pw_cell_below hbd a4; have d4y := pw_cell_below hbd b4
      have r0 := pw_cell_below hbd q0; have r1 := pw_cell_below hbd q1; have r2 := pw_cell_below hbd q2; have r3 := pw_cell_below hbd q3; have r4 := pw_cell_below hbd q4; have r5 := pw_cell_below hbd q5
      have s0 := pw_cell_below hbd p0; have s1 := pw_cell_below hbd p1; have s2 := pw_cell_below hbd p2; have s3 := pw_cell_below hbd p3; have s4 := pw_cell_below hbd p4; have s5 := pw_cell_below hbd p5
      clear hbd
      go_wp2
      go_cut [67] (fun v67 wc => v67 = .bool (!M) ∧ Aside0 (wc.heap[gb]? = some (.cells #[.int .i64 x.f0, .int .i64 x.f1, .int .u64 x.f2, .string x.f3, .slice (some ad) x.f4.length c4, .slice A5 x.f5.length c5] 27 (0, 0))) ∧ Aside0 (wc.heap[gc]? = some (.cells #[.int .i64 y.f0, .int .i64 y.f1, .int .u64 y.f2, .string y.f3, .slice (some ad') y.f4.length d4, .slice B5 y.f5.length d5] 27 (0, 0))) ∧ Aside0 (Below w.heap.size w wc))
      case first =>
        go_region_with (first | (go_at_call 10; (with_reducible refine (CI.out _ HBD.out).mono ?_); rintro e w' ⟨rfl, hb3⟩; have hb4 := below_step HBD.out hb3; have HB3 := Aside0.mk (below_step HBr.out hb4); have BX3 := Aside0.mk (blk_below BXr.out hb4); have BY3 := Aside0.mk (blk_below BYr.out hb4); clear hb3 hb4))
        all_goals
          (try go_wp2)
          go_meet
          case rel => exact ⟨rfl, BX3, BY3, HB3⟩
      case rest =>
        obtain ⟨rfl, BXc, BYc, HBc⟩ := hcut
        cases M
        · have e1 : R = false := HST.out
          subst e1
          go_wp2
          all_goals (go_ret; exact ⟨rfl, HBc.out⟩)
        · have HM2 := Aside0.mk (show sameL (svD d) (x.f4.drop (i + 1).toNat) (y.f4.drop (i + 1).toNat) = R from HST.out.symm)
          go_wp2
          go_roundg k2
          case measure => omega
          case rel => exact ⟨i + 1, rfl, HI2, HM2, BXc, BYc, HBc⟩
theorem sv_all : ∀ d, SvC d
  | 0 => fun x y A4 c4 A5 c5 B4 d4 B5 d5 w h => h.elim
  | d + 1 => sv_succ d (sv_all d)
/-- At leaves. -/
theorem sv_leafs (x y : V) (hx4 : x.f4 = []) (hx5 : x.f5 = []) (hy4 : y.f4 = []) (hy5 : y.f5 = []) (hs : svD 1 x y = true) (A : Option Addr) (c : Nat) (B : Option Addr) (d : Nat) (W : World) :
    Calls Tryz.prog 10 #[.agg #[.int .i64 x.f0, .int .i64 x.f1, .int .u64 x.f2, .string x.f3, .slice A 0 c, .slice B 0 d], .agg #[.int .i64 y.f0, .int .i64 y.f1, .int .u64 y.f2, .string y.f3, .slice none 0 0, .slice none 0 0]] W fun e w' => e = .returned (.bool true) ∧ Below W.heap.size W w' := by
  have hn : ∀ {α : Type} (dd : Kd α) (Z : Option Addr), Kd.C dd W Z 0 [] := fun dd Z => ⟨rfl, by decide, fun h => absurd h (Nat.lt_irrefl 0)⟩
  have h := sv_all 1 x y A c B d none 0 none 0 W (fun z hz => by rw [hx4] at hz; cases hz) ⟨by rw [hx4]; exact hn _ _, by rw [hx4]; exact Nat.zero_le _, by rw [hx5]; exact hn _ _, by rw [hx5]; exact Nat.zero_le _⟩ ⟨by rw [hy4]; exact hn _ _, by rw [hy4]; exact Nat.zero_le _, by rw [hy5]; exact hn _ _, by rw [hy5]; exact Nat.zero_le _⟩
  rw [hs] at h
  unfold arg at h
  rw [show x.f4.length = 0 by rw [hx4]; rfl, show x.f5.length = 0 by rw [hx5]; rfl, show y.f4.length = 0 by rw [hy4]; rfl, show y.f5.length = 0 by rw [hy5]; rfl] at h
  exact h
end Go.Proofs.YtdghnfmhcnlppaaGreatDoor.Values
