/- Package value, walked: Copy of a tree: rows of which some elements are copied already, some are still the old ones. · Package value, walked: Copy of a tree. -/
import Derived.Test.YtdghnfmhcnlppaaGreatDoorValuesR
namespace Go.Proofs.YtdghnfmhcnlppaaGreatDoor.Values
open Go.RowKit Go.Proofs.YtdghnfmhcnlppaaGreatDoor.Q Go.Proofs.YtdghnfmhcnlppaaGreatDoor.Real Go.Proofs.YtdghnfmhcnlppaaGreatDoor.RealPure Go.Proofs.YtdghnfmhcnlppaaGreatDoorW.PrintWords Go.Proofs.YtdghnfmhcnlppaaGreatDoorW.PrintLast Go.Proofs.YtdghnfmhcnlppaaGreatDoorW.PrintMore
set_option linter.unusedSimpArgs false
set_option linter.unusedVariables false

/-- An element that is copied (true), or one that stands as it stood in an elder world (false). -/
def mixK {α : Type} (d : Kd α) (w0 : World) : Kd (α × Bool) where
  sz := d.sz
  E := d.E
  K := fun w x cs => if x.2 = true then d.K w x.1 cs else d.K w0 x.1 cs
  M := fun w base ok x cs => if x.2 = true then d.M w base ok x.1 cs else d.K w0 x.1 cs
  K_len := fun {w x cs} h => by split at h <;> exact d.K_len h
  K_one := fun {w x cs} h => by split at h <;> exact d.K_one h
  K_below := fun {w w1 x cs} hb h => by
    split at h
    · rename_i c; rw [if_pos c]; exact d.K_below hb h
    · rename_i c; rw [if_neg c]; exact h
  K_of_M := fun {w base ok x cs} h => by
    split at h
    · rename_i c; rw [if_pos c]; exact d.K_of_M h
    · rename_i c; rw [if_neg c]; exact h
  M_mono := fun {w base ok ok' x cs} hok h => by
    split at h
    · rename_i c; rw [if_pos c]; exact d.M_mono hok h
    · rename_i c; rw [if_neg c]; exact h
  M_bound := fun {w base ok x cs} h => by
    split at h
    · rename_i c; rw [if_pos c]; exact d.M_bound h
    · rename_i c; rw [if_neg c]; exact h
  M_move := fun {w w1 base ok x cs} hm h => by
    split at h
    · rename_i c; rw [if_pos c]; exact d.M_move hm h
    · rename_i c; rw [if_neg c]; exact h
  M_lower := fun {w base base' ok x cs} hb h => by
    split at h
    · rename_i c; rw [if_pos c]; exact d.M_lower hb h
    · rename_i c; rw [if_neg c]; exact h

/-- The first i are copied. -/
def mixL {α : Type} (xs : List α) (i : Nat) : List (α × Bool) := (xs.take i).map (fun x => (x, true)) ++ (xs.drop i).map (fun x => (x, false))
theorem mixL_length {α : Type} (xs : List α) (i : Nat) (h : i ≤ xs.length) : (mixL xs i).length = xs.length := by
  unfold mixL
  rw [List.length_append, List.length_map, List.length_map, List.length_take, List.length_drop]
  omega
theorem mixL_get {α : Type} (xs : List α) (i j : Nat) (h : i ≤ xs.length) : (mixL xs i)[j]? = (xs[j]?).map (fun x => (x, decide (j < i))) := by
  unfold mixL
  by_cases c : j < i
  · rw [List.getElem?_append_left (by rw [List.length_map, List.length_take]; omega), List.getElem?_map, List.getElem?_take, if_pos c, decide_eq_true c]
  · have hl : ((xs.take i).map (fun x => (x, true))).length = i := by rw [List.length_map, List.length_take]; omega
    rw [List.getElem?_append_right (by omega), hl, List.getElem?_map, List.getElem?_drop, Nat.add_sub_cancel' (by omega), decide_eq_false c]
theorem mixL_set {α : Type} (xs : List α) (i : Nat) (x : α) (hx : xs[i]? = some x) : (mixL xs i).set i (x, true) = mixL xs (i + 1) := by
  have hi : i < xs.length := (List.getElem?_eq_some_iff.1 hx).1
  apply List.ext_getElem?
  intro j
  rw [mixL_get xs (i + 1) j (by omega)]
  by_cases c : j = i
  · subst c
    rw [List.getElem?_set_self (by rw [mixL_length xs j (by omega)]; exact hi), hx, Option.map_some, decide_eq_true (by omega)]
  · rw [List.getElem?_set_ne (Ne.symm c), mixL_get xs i j (by omega)]
    have e : decide (j < i) = decide (j < i + 1) := decide_eq_decide.2 (by omega)
    rw [e]
theorem reps_mix0 {α : Type} {d : Kd α} {w0 w : World} {base : Nat} {ok : Nat → Prop} {xs : List α} {cs : List Value} (h : Reps (d.K w0) d.sz xs cs) : Reps ((mixK d w0).M w base ok) d.sz (mixL xs 0) cs := by
  refine ⟨by rw [mixL_length xs 0 (by omega)]; exact h.1, fun j p hj => ?_⟩
  rw [mixL_get xs 0 j (by omega)] at hj
  obtain ⟨x, hx, rfl⟩ := Option.map_eq_some_iff.1 hj
  have e : decide (j < 0) = false := decide_eq_false (by omega)
  rw [e]
  exact h.2 j x hx
theorem reps_mix1 {α : Type} {d : Kd α} {w0 w : World} {base : Nat} {ok : Nat → Prop} {xs : List α} {cs : List Value} (h : Reps ((mixK d w0).M w base ok) d.sz (mixL xs xs.length) cs) : Reps (d.M w base ok) d.sz xs cs := by
  refine ⟨by rw [h.1, mixL_length xs _ (Nat.le_refl _)], fun j x hx => ?_⟩
  have hj : j < xs.length := (List.getElem?_eq_some_iff.1 hx).1
  have h1 := h.2 j (x, true) (by rw [mixL_get xs _ j (Nat.le_refl _), hx, Option.map_some, decide_eq_true hj])
  exact h1
theorem R_mix1 {α : Type} {d : Kd α} {w0 w : World} {e base : Nat} {ok : Nat → Prop} {v : Value} {xs : List α} (h : (mixK d w0).R e w base ok v (mixL xs xs.length)) : d.R e w base ok v xs := by
  obtain ⟨h0, inner, ho, hr⟩ := h
  rw [mixL_length xs _ (Nat.le_refl _)] at ho
  exact ⟨h0, inner, ho, reps_mix1 hr⟩

/-- How large the rows may be that Copy makes: of at most so many levels. -/
def fitD : Nat → V → Prop
  | 0, _ => False
  | d + 1, x => x.f4.length ≤ 1048576 ∧ x.f5.length ≤ 1048576 ∧ ∀ z ∈ x.f4, fitD d z
theorem fit_of_ok : ∀ d x, okG d x → fitD d x
  | 0, x, h => h
  | d + 1, x, h => by
    have ho := h.1
    have h64 : x.f4.length ≤ 64 := by
      unfold ownB at ho
      simp only [Bool.and_eq_true, decide_eq_true_eq] at ho
      exact ho.1.2
    refine ⟨by omega, ?_, fun z hz => fit_of_ok d z (h.2 z hz)⟩
    by_cases h6 : x.f0 = 6
    · have := keys_len ho h6; omega
    · unfold ownB at ho
      simp only [Bool.and_eq_true, decide_eq_true_eq] at ho
      have hp := ho.1.1
      unfold plainB at hp
      simp only [Bool.and_eq_true, Bool.or_eq_true, beq_iff_eq] at hp
      have := hp.2.resolve_left h6
      omega
end Go.Proofs.YtdghnfmhcnlppaaGreatDoor.Values
namespace Go.Proofs.YtdghnfmhcnlppaaGreatDoor.Values
open Go.RowKit Go.Proofs.YtdghnfmhcnlppaaGreatDoor.Q Go.Proofs.YtdghnfmhcnlppaaGreatDoor.Real Go.Proofs.YtdghnfmhcnlppaaGreatDoor.RealPure Go.Proofs.YtdghnfmhcnlppaaGreatDoorW.PrintWords Go.Proofs.YtdghnfmhcnlppaaGreatDoorW.PrintLast Go.Proofs.YtdghnfmhcnlppaaGreatDoorW.PrintMore
set_option linter.unusedSimpArgs false
set_option linter.unusedVariables false

theorem own_form {w : World} {base : Nat} {e : TypeId} {size n : Nat} {v : Value} {xs : List Value} (h : w.ownsRow base e size v n xs) : ∃ B cb, v = .slice B n cb ∧ n ≤ cb := by
  rcases h.2 with ⟨rfl, rfl⟩ | ⟨g, cap, cur, rfl, _, _, hc, _⟩
  · exact ⟨none, 0, rfl, Nat.le_refl _⟩
  · exact ⟨_, cap, rfl, hc⟩
theorem clone27_any (A : Option Addr) (c : Nat) (xs : List V) (w0 w : World) (hb : Below w0.heap.size w0 w) (h : Kd.C k27 w0 A xs.length xs) (hn : xs.length ≤ 1048576) :
    Calls Tryz.prog 44 #[.slice A xs.length c] w fun e w' => (∃ B cb inner, e = .returned (.slice B xs.length cb) ∧ w'.ownsRow w.heap.size 27 6 (.slice B xs.length cb) xs.length inner ∧ Reps (k27.K w0) 6 xs inner) ∧ Below w.heap.size w w' := by
  cases A with
  | none =>
    have h0 : xs = [] := by
      cases xs with
      | nil => rfl
      | cons x ys => obtain ⟨ad, e, _⟩ := h.2.2 (by simp); cases e
    subst h0
    exact (clone27_nil 0 c w).mono fun e w' ⟨h1, h2⟩ => by subst h2; exact ⟨⟨none, 0, [], h1, own_nil _ _ _ _, Reps.none _ _⟩, Below.refl _ _⟩
  | some a =>
    obtain ⟨inner, hr, hc⟩ := ReadsRow.inner_ h
    refine (clone27 a xs.length c inner w hr.1 hn (fun j u hj => pw_cell_below hb (hc j u hj)) (Kd.reps_one hr (by decide) (fun _ _ hp => k27.K_one hp))).mono fun e w' ⟨v', h1, h2, h3⟩ => ?_
    obtain ⟨B, cb, rfl, _⟩ := own_form h2
    exact ⟨⟨B, cb, inner, h1, h2, hr⟩, h3⟩
theorem clone9_any (A : Option Addr) (c : Nat) (xs : List ByteArray) (w : World) (h : Kd.C Kd.string w A xs.length xs) (hn : xs.length ≤ 1048576) :
    Calls Tryz.prog 45 #[.slice A xs.length c] w fun e w' => (∃ B cb, e = .returned (.slice B xs.length cb) ∧ Kd.string.R 9 w' w.heap.size (fun _ => True) (.slice B xs.length cb) xs) ∧ Below w.heap.size w w' := by
  cases A with
  | none =>
    have h0 : xs = [] := by
      cases xs with
      | nil => rfl
      | cons x ys => obtain ⟨ad, e, _⟩ := h.2.2 (by simp); cases e
    subst h0
    exact (clone9_nil 0 c w).mono fun e w' ⟨h1, h2⟩ => by subst h2; exact ⟨⟨none, 0, h1, Kd.R_nil _ _ _ _ _⟩, Below.refl _ _⟩
  | some a =>
    obtain ⟨inner, hr, hc⟩ := ReadsRow.inner_ h
    refine (clone9 a xs.length c inner w hr.1 hn hc (Kd.reps_one hr (by decide) (fun _ _ hp => Kd.string.K_one (w := w) hp))).mono fun e w' ⟨v', h1, h2, h3⟩ => ?_
    obtain ⟨B, cb, rfl, _⟩ := own_form h2
    exact ⟨⟨B, cb, h1, ⟨fun _ _ => trivial, inner, h2, hr⟩⟩, h3⟩

theorem add0 (g m : Nat) : (⟨g, 0, none⟩ : Addr).add m = ⟨g, m, none⟩ := by
  unfold Addr.add
  by_cases h : m = 0 <;> simp [h]
/-- What Copy answers. -/
def CopyC (d : Nat) : Prop := ∀ (x : V) (A4 : Option Addr) (c4 : Nat) (A5 : Option Addr) (c5 : Nat) (w : World), fitD d x → Rows4 w x A4 c4 A5 c5 →
    Calls Tryz.prog 25 #[arg x A4 c4 A5 c5] w fun e w' => ∃ v4 v5, e = .returned (.agg #[.int .i64 x.f0, .int .i64 x.f1, .int .u64 x.f2, .string x.f3, v4, v5]) ∧
      Kd.R k27 27 w' w.heap.size (fun k_ => some k_ ≠ v5.ownBlock) v4 x.f4 ∧ Kd.R Kd.string 9 w' w.heap.size (fun _ => True) v5 x.f5 ∧ Below w.heap.size w w'

theorem R_past2 {α : Type} {d : Kd α} {e : Nat} {w : World} {base : Nat} {ok : Nat → Prop} {v : Value} {xs : List α} {gb : Nat} {u4 u5 : Value} (h : d.R e w base ok v xs) (hok : ∀ k, ok k → k ≠ gb) : d.R e ((w.setCell ⟨gb, 4, none⟩ u4).setCell ⟨gb, 5, none⟩ u5) base ok v xs :=
  Kd.R_far (p := ⟨gb, 5, none⟩) (Kd.R_far (p := ⟨gb, 4, none⟩) h (fun k hk => hok k hk) u4) (fun k hk => hok k hk) u5

/-- A copied element is stored into its place. -/
theorem copy_put {w wr w6 : World} {xs : List V} {i n cap g base nb : Nat} {y : V} {ad : Addr} {ok : Nat → Prop} {cs : List Value} {v4 v5 : Value} (hy : xs[i]? = some y) (had : ad = ⟨g, 0, none⟩) (hn : xs.length = n) (hin : i < n)
    (RB : (mixK k27 w).R 27 wr base ok (.slice (some ad) n cap) (mixL xs i)) (hcl : cs.length = 6) (hcc : ∀ j u, cs[j]? = some u → wr.cell? (ad.add (i * 6 + j)) = some u) (hb : Below wr.heap.size wr w6)
    (R4 : k27.R 27 w6 nb (fun k => some k ≠ v5.ownBlock) v4 y.f4) (R5 : Kd.string.R 9 w6 nb (fun _ => True) v5 y.f5) (hnb : base ≤ nb) (hok : ∀ k, nb ≤ k → k < w6.heap.size → ok k ∧ k ≠ g) :
    (mixK k27 w).R 27 (w6.setCells g (i * 6) [.int .i64 y.f0, .int .i64 y.f1, .int .u64 y.f2, .string y.f3, v4, v5]) base ok (.slice (some ad) n cap) (mixL xs (i + 1)) ∧ w6.grownBy (w6.setCells g (i * 6) [.int .i64 y.f0, .int .i64 y.f1, .int .u64 y.f2, .string y.f3, v4, v5]) (some g) := by
  subst had
  have h6 := Kd.R_below RB hb
  have hM : k27.M w6 base (fun k => nb ≤ k ∧ k < w6.heap.size) y [.int .i64 y.f0, .int .i64 y.f1, .int .u64 y.f2, .string y.f3, v4, v5] :=
    k27_mkM w6 base _ y (Kd.R_lower (Kd.R_mono (Kd.R_bound R4) (fun k hk => ⟨hk.2.1, hk.2.2.1⟩)) hnb) (Kd.R_lower (Kd.R_mono (Kd.R_bound R5) (fun k hk => ⟨hk.2.1, hk.2.2.1⟩)) hnb)
  have hs := Kd.R_seg h6 (i : Int) (by omega) (by omega) (c := cs) (seg := [.int .i64 y.f0, .int .i64 y.f1, .int .u64 y.f2, .string y.f3, v4, v5]) (j := 0) (x' := (y, true)) (okp := fun k => nb ≤ k ∧ k < w6.heap.size) hcl
    (fun j u hj => by have h := hcc j u hj; rw [add0] at h; exact pw_cell_below hb h) (by show 0 + 6 ≤ 6; omega)
    (by
      have e : cs.take 0 ++ [.int .i64 y.f0, .int .i64 y.f1, .int .u64 y.f2, .string y.f3, v4, v5] ++ cs.drop (0 + [Value.int .i64 y.f0, .int .i64 y.f1, .int .u64 y.f2, .string y.f3, v4, v5].length) = [.int .i64 y.f0, .int .i64 y.f1, .int .u64 y.f2, .string y.f3, v4, v5] := by
        rw [List.drop_of_length_le (by rw [hcl]; exact Nat.le_refl _)]
        simp
      rw [e]
      exact hM) (fun k hk => hok k hk.1 hk.2)
  rw [Int.toNat_natCast, mixL_set xs i y hy] at hs
  exact hs

set_option maxHeartbeats 8000000 in
set_option maxRecDepth 100000 in
theorem Copy_step (d : Nat) (ih : CopyC d) : CopyC (d + 1) := by
  intro x A4 c4 A5 c5 w hfit hrows
  have hu27 := Tryz.underlying27
  obtain ⟨hn4, hn5, hsub⟩ := hfit
  have HIH := Lib.hid ih
  have HSUB := Lib.hid hsub
  have H0 := Lib.hid hrows
  obtain ⟨n4, hn4e⟩ : ∃ n, x.f4.length = n := ⟨_, rfl⟩
  obtain ⟨n5, hn5e⟩ : ∃ n, x.f5.length = n := ⟨_, rfl⟩
  have K4 : ∀ W, Below w.heap.size w W → Calls Tryz.prog 44 #[.slice A4 n4 c4] W fun e w' => (∃ B cb inner, e = .returned (.slice B n4 cb) ∧ w'.ownsRow W.heap.size 27 6 (.slice B n4 cb) n4 inner ∧ Reps (k27.K w) 6 x.f4 inner) ∧ Below W.heap.size W w' := fun W hb => by
    have h := clone27_any A4 c4 x.f4 w W hb hrows.k4 hn4
    rw [hn4e] at h; exact h
  have K5 : ∀ W, Below w.heap.size w W → Calls Tryz.prog 45 #[.slice A5 n5 c5] W fun e w' => (∃ B cb, e = .returned (.slice B n5 cb) ∧ Kd.string.R 9 w' W.heap.size (fun _ => True) (.slice B n5 cb) x.f5) ∧ Below W.heap.size W w' := fun W hb => by
    have h := clone9_any A5 c5 x.f5 W (Kd.C_below hrows.k5 hb) hn5
    rw [hn5e] at h; exact h
  have C4 := Lib.hid K4; have C5 := Lib.hid K5
  clear K4 K5 ih hsub hrows
  show Calls _ _ #[.agg #[.int .i64 x.f0, .int .i64 x.f1, .int .u64 x.f2, .string x.f3, .slice A4 x.f4.length c4, .slice A5 x.f5.length c5]] w _
  rw [hn4e, hn5e]
  have EN4 := Lib.hid hn4e; have EN5 := Lib.hid hn5e; have LN4 := Lib.hid hn4; have LN5 := Lib.hid hn5
  clear hn4e hn5e hn4 hn5
  generalize x.f0 = a0
  generalize x.f1 = a1
  generalize x.f2 = a2
  generalize x.f3 = a3
  go_enter Tryz.func25, Tryz.ntmps25
  go_upto_region 1 with (first | ((with_reducible refine gate_dst (N := 1) rfl ?_); (try (refine gate_guard (by rfl) ?_; dsimp only)); refine box_event ?hg (N := 1) ?hd (cs := #[.int .i64 a0, .int .i64 a1, .int .u64 a2, .string a3, .slice A4 n4 c4, .slice A5 n5 c5]) (t := 27) ?hr ?_; (case hd => rfl); (case hg => rfl); (case hr => first | (go_simp; done) | (go_simp; rfl)); intro gb hg w3 hbox hb; have BK := Aside0.mk hbox; have HB := Aside0.mk hb; have GE := Lib.hid hg; clear hb hbox hg))
  have A1 := Lib.hid (blk_alloc BK.out (.cells #[.int .i64 0, .int .i64 0, .int .u64 0, .string ⟨#[]⟩, .slice none 0 0, .slice none 0 0] 27))
  have A2 := Lib.hid (blk_new w3 (.cells #[.int .i64 0, .int .i64 0, .int .u64 0, .string ⟨#[]⟩, .slice none 0 0, .slice none 0 0] 27))
  have A3 := Lib.hid (below_alloc HB.out (.cells #[.int .i64 0, .int .i64 0, .int .u64 0, .string ⟨#[]⟩, .slice none 0 0, .slice none 0 0] 27))
  have GZ := Lib.hid (below_size HB.out)
  have NE := Lib.hid (Nat.ne_of_lt (blk_lt BK.out))
  clear HB BK
  generalize w3.heap.size = gz at *
  generalize hw4 : w3.alloc (.cells #[.int .i64 0, .int .i64 0, .int .u64 0, .string ⟨#[]⟩, .slice none 0 0, .slice none 0 0] 27) = w4 at *
  clear hw4
  have g4 : w4.cell? ⟨gb, 4, none⟩ = some (.slice A4 n4 c4) := (blk_cell A1.out 4).trans rfl
  have g5 : w4.cell? ⟨gb, 5, none⟩ = some (.slice A5 n5 c5) := (blk_cell A1.out 5).trans rfl
  have D1 := Lib.hid (blk_drew A1.out); have D2 := Lib.hid (blk_drew A2.out); have D3 := Lib.hid (below_drew A3.out)
  have d4 : w4.drew.cell? ⟨gb, 4, none⟩ = some (.slice A4 n4 c4) := (blk_cell D1.out 4).trans rfl
  have d5 : w4.drew.cell? ⟨gb, 5, none⟩ = some (.slice A5 n5 c5) := (blk_cell D1.out 5).trans rfl
  go_cut [6] (fun v6 wc => ∃ (B : Option Addr) (cb : Nat) (C : Option Addr) (cc : Nat) (inner : List Value), v6 = .slice B n4 cb ∧ Aside0 (wc.heap[gb]? = some (.cells #[.int .i64 a0, .int .i64 a1, .int .u64 a2, .string a3, .slice B n4 cb, .slice C n5 cc] 27 (0, 0))) ∧ Aside0 (wc.heap[gz]? = some (.cells #[.int .i64 0, .int .i64 0, .int .u64 0, .string ⟨#[]⟩, .slice none 0 0, .slice none 0 0] 27 (0, 0))) ∧ Aside0 (wc.ownsRow w.heap.size 27 6 (.slice B n4 cb) n4 inner) ∧ Aside0 (Reps (k27.K w) 6 x.f4 inner) ∧ Aside0 (Kd.string.R 9 wc w.heap.size (fun k => k ≠ gb ∧ k ≠ gz ∧ some k ≠ (Value.slice B n4 cb).ownBlock) (.slice C n5 cc) x.f5) ∧ Aside0 (∀ k, (Value.slice B n4 cb).ownBlock = some k → k ≠ gb ∧ k ≠ gz ∧ some k ≠ (Value.slice C n5 cc).ownBlock) ∧ Aside0 (Below w.heap.size w wc))
  case first =>
    go_region_with (first | (go_at_call 44; refine (C4.out _ D3.out).mono ?_; rintro e w5 ⟨⟨B, cb, inner, rfl, hB, hRp⟩, hb5⟩; have h4 := pw_cell_below hb5 d4; have h5 := pw_cell_below hb5 d5; have BK5 := Aside0.mk (blk_below D1.out hb5); have BZ5 := Aside0.mk (blk_below D2.out hb5); have HB45 := Aside0.mk hb5; have HB5 := Aside0.mk (below_step D3.out hb5); have OB := Aside0.mk hB; have RP := Aside0.mk hRp; clear hb5 hB hRp) | (go_at_call 45; refine (C5.out _ HB5.out).mono ?_; rintro e w6 ⟨⟨C, cc, rfl, hC⟩, hb6⟩; have k4 := pw_cell_below hb6 h4; have k5 := pw_cell_below hb6 h5; have BK6 := Aside0.mk (blk_below BK5.out hb6); have BZ6 := Aside0.mk (blk_below BZ5.out hb6); have f4 := blk_frozen BK6.out 4; have f5 := blk_frozen BK6.out 5; have HB6 := Aside0.mk (below_step HB5.out hb6); have OB6 := Aside0.mk (pw_own_below OB.out hb6); have OC := Aside0.mk hC; clear hb6 hC))
    all_goals
      (try go_wp2)
      go_meet
      case rel =>
        have hgb : gb < w4.drew.heap.size := blk_lt D1.out
        have hgz : gz < w4.drew.heap.size := blk_lt D2.out
        have hww : w.heap.size ≤ w4.drew.heap.size := below_size D3.out
        have hw5 : w4.drew.heap.size ≤ w5.heap.size := below_size HB45.out
        have hB : ∀ k, (Value.slice B n4 cb).ownBlock = some k → w4.drew.heap.size ≤ k ∧ k < w5.heap.size := fun k hk => ⟨own_base OB.out k hk, own_lt OB.out k hk⟩
        have hC : ∀ k, (Value.slice C n5 cc).ownBlock = some k → w5.heap.size ≤ k := fun k hk => by obtain ⟨inn, ho⟩ := Kd.R_own OC.out; exact own_base ho k hk
        have hRC := Kd.R_mono (ok' := fun k => k ≠ gb ∧ k ≠ gz ∧ some k ≠ (Value.slice B n4 cb).ownBlock) (Kd.R_bound OC.out) (fun k hk => ⟨by have := hk.2.1; omega, by have := hk.2.1; omega, fun he => by have := hB k he.symm; have := hk.2.1; omega⟩)
        refine ⟨B, cb, C, cc, inner, rfl, ⟨blk_put (blk_put BK6.out 4 _ rfl) 5 _ rfl⟩, ⟨blk_far (blk_far BZ6.out (Ne.symm NE.out) _) (Ne.symm NE.out) _⟩, ⟨own_weaken (own_past (own_past OB6.out hgb 4 _) hgb 5 _) hww⟩, RP, ⟨Kd.R_lower (R_past2 hRC (fun k hk => hk.1)) (Nat.le_trans hww hw5)⟩, ⟨fun k hk => ⟨by have := hB k hk; omega, by have := hB k hk; omega, fun he => by have h1 := hB k hk; have h2 := hC k he.symm; omega⟩⟩, ⟨below_set (below_set HB6.out (by rw [GE.out]; exact Nat.le_refl _)) (by rw [GE.out]; exact Nat.le_refl _)⟩⟩
  case rest =>
    obtain ⟨B, cb, C, cc, inner, rfl, BK, BZ, OB, RP, RC, HS, HB⟩ := hcut
    clear g4 g5 d4 d5 A1 A2 A3 D1 D2 D3 C4 C5
    have RB0 : (mixK k27 w).R 27 wc w.heap.size (fun k => k ≠ gb ∧ k ≠ gz ∧ some k ≠ (Value.slice C n5 cc).ownBlock) (.slice B n4 cb) (mixL x.f4 0) :=
      ⟨HS.out, inner, by rw [mixL_length x.f4 0 (Nat.zero_le _), EN4.out]; exact OB.out, reps_mix0 RP.out⟩
    have RB := Aside0.mk RB0
    clear RB0 RP OB
    have g4 : wc.cell? ⟨gb, 4, none⟩ = some (.slice B n4 cb) := (blk_cell BK.out 4).trans rfl
    go_wp2
    clear g4
    go_loopg [15] n4 (fun kq v15 wr => ∃ (i : Nat), v15 = .int .i64 (i : Int) ∧ Aside0 (i + kq = n4) ∧ Aside0 (wr.heap[gb]? = some (.cells #[.int .i64 a0, .int .i64 a1, .int .u64 a2, .string a3, .slice B n4 cb, .slice C n5 cc] 27 (0, 0))) ∧ Aside0 (wr.heap[gz]? = some (.cells #[.int .i64 0, .int .i64 0, .int .u64 0, .string ⟨#[]⟩, .slice none 0 0, .slice none 0 0] 27 (0, 0))) ∧ Aside0 ((mixK k27 w).R 27 wr w.heap.size (fun k => k ≠ gb ∧ k ≠ gz ∧ some k ≠ (Value.slice C n5 cc).ownBlock) (.slice B n4 cb) (mixL x.f4 i)) ∧ Aside0 (Kd.string.R 9 wr w.heap.size (fun k => k ≠ gb ∧ k ≠ gz ∧ some k ≠ (Value.slice B n4 cb).ownBlock) (.slice C n5 cc) x.f5) ∧ Aside0 (Below w.heap.size w wr))
    case atStart => exact ⟨0, rfl, ⟨by omega⟩, BK, BZ, RB, RC, HB⟩
    case round =>
      clear BK BZ RB RC HB
      obtain ⟨i, rfl, HI, BK, BZ, RB, RC, HB⟩ := hrel
      have hi := HI.out
      cases gk with
      | zero =>
        have hlt : decide (i < n4) = false := decide_eq_false (by omega)
        have ei : i = x.f4.length := by have := EN4.out; omega
        subst ei
        have g0 : wr.cell? ⟨gb, 0, none⟩ = some (.int .i64 a0) := (blk_cell BK.out 0).trans rfl
        have g1 : wr.cell? ⟨gb, 1, none⟩ = some (.int .i64 a1) := (blk_cell BK.out 1).trans rfl
        have g2 : wr.cell? ⟨gb, 2, none⟩ = some (.int .u64 a2) := (blk_cell BK.out 2).trans rfl
        have g3 : wr.cell? ⟨gb, 3, none⟩ = some (.string a3) := (blk_cell BK.out 3).trans rfl
        have g4 : wr.cell? ⟨gb, 4, none⟩ = some (.slice B n4 cb) := (blk_cell BK.out 4).trans rfl
        have g5 : wr.cell? ⟨gb, 5, none⟩ = some (.slice C n5 cc) := (blk_cell BK.out 5).trans rfl
        clear hi
        go_wp2_with (first | ((with_reducible refine gate_store (t := 27) (p := 2) rfl ?_); refine row_event (by rfl) (by rfl) (by rfl) (by rfl) (by rfl) BZ.out (by exact size27) (by rfl) (by first | rfl | simp [Value.oneCell']) ?_; intro w5 hz5 ho5 hb5; have Z5 := Lib.hid hz5; have HO5 := Lib.hid ho5; have HB5 := Lib.hid (hb5 GZ.out HB.out); clear hb5 ho5 hz5))
        refine bodyPost_ret (results_cell_row rfl _ _ gz 27 _ (0, 0) _ rfl Z5.out hu27 rfl (by exact size27)) rfl ?_
        exact ⟨_, _, rfl, Kd.R_mono (Kd.R_move (R_mix1 RB.out) (fun k hk => HO5.out k hk.2.1)) (fun k hk => hk.2.2), Kd.R_mono (Kd.R_move RC.out (fun k hk => HO5.out k hk.2.1)) (fun _ _ => trivial), HB5.out⟩
      | succ k2 =>
        have hlt : decide (i < n4) = true := decide_eq_true (by omega)
        have hil : i < x.f4.length := by have := EN4.out; omega
        obtain ⟨y, hy⟩ : ∃ y, x.f4[i]? = some y := ⟨_, List.getElem?_eq_getElem hil⟩
        have hfy : fitD d y := HSUB.out y (List.mem_of_getElem? hy)
        obtain ⟨inn, hown⟩ := Kd.R_own RB.out
        rw [mixL_length x.f4 i (by omega), EN4.out] at hown
        obtain ⟨g, cap, cur, hv, hg1, hg2, hg3, hg4, hg5, hg6⟩ : ∃ g cap cur, (Value.slice B n4 cb) = .slice (some ⟨g, 0, none⟩) n4 cap ∧ w.heap.size ≤ g ∧ wr.heap[g]? = some (.cells cur 27 (0, 0)) ∧ n4 ≤ cap ∧ cap ≤ maxLen ∧ cur.size = cap * 6 ∧ cur.toList.take (n4 * 6) = inn := by
          rcases hown.2 with ⟨_, h0⟩ | h
          · omega
          · exact h
        injection hv with hv1 _ hv3
        have HG2 := Lib.hid hg2
        clear hown hg2 hg3 hg4 hg5 hg6 hv3
        obtain ⟨ad, hadB⟩ : ∃ ad, B = some ad := ⟨_, hv1⟩
        subst hadB
        have HAD := Lib.hid (Option.some.inj hv1)
        clear hv1
        obtain ⟨Ad, cA, hA1, hA2, hA3⟩ := Kd.R_reads RB.out
        rw [mixL_length x.f4 i (by omega), EN4.out] at hA1 hA3
        have hA4 : some ad = Ad := by injection hA1
        clear hA1
        subst hA4
        obtain ⟨ad', cs, had, hcl, hcK, hcc⟩ := Kd.C_get hA3 (y, false) (i : Int) (by omega) (by omega)
        injection had with had
        subst had
        have hget : (mixL x.f4 i).getD (i : Int).toNat (y, false) = (y, false) := by
          rw [List.getD_eq_getElem?_getD, Int.toNat_natCast, mixL_get x.f4 i i (by omega), hy, decide_eq_false (by omega)]; rfl
        rw [hget] at hcK
        have hcK' : k27.K w y cs := hcK
        obtain ⟨Y4, e4, Y5, e5, hcs, l4, r4, l5, r5⟩ := k27_open hcK'
        have HRY := Lib.hid (show Rows4 w y Y4 e4 Y5 e5 from ⟨r4, l4, r5, l5⟩)
        subst hcs
        obtain ⟨oo, hoo⟩ : ∃ oo, i * 6 = oo := ⟨_, rfl⟩
        have HOO := Lib.hid hoo
        have hp : ad.add (i * 6) = ⟨g, oo, none⟩ := by rw [HAD.out, add0, hoo]
        have hAt : At wr ⟨g, oo, none⟩ y Y4 e4 Y5 e5 := by
          have hc : ∀ j u, _ → wr.cell? (ad.add (i * 6 + j)) = some u := hcc
          have hc' : ∀ j u, _ → wr.cell? ⟨g, oo + j, none⟩ = some u := fun j u h => by have := hc j u h; rwa [HAD.out, add0, hoo] at this
          exact ⟨hc' 0 _ rfl, hc' 1 _ rfl, hc' 2 _ rfl, hc' 3 _ rfl, hc' 4 _ rfl, hc' 5 _ rfl⟩
        clear hoo
        have HCC := Lib.hid hcc
        have g4 : wr.cell? ⟨gb, 4, none⟩ = some (.slice (some ad) n4 cb) := (blk_cell BK.out 4).trans rfl
        have BKd := Lib.hid (blk_drew BK.out)
        have d4 : wr.drew.cell? ⟨gb, 4, none⟩ = some (.slice (some ad) n4 cb) := (blk_cell BKd.out 4).trans rfl
        have hAtd : At wr.drew ⟨g, oo, none⟩ y Y4 e4 Y5 e5 := hAt.below (below_drew (Below.refl _ _))
        have HATD := Lib.hid hAtd
        have HG2D := Lib.hid (blk_drew HG2.out)
        obtain ⟨q0, q1, q2, q3, q4, q5⟩ := hAtd
        obtain ⟨p0, p1, p2, p3, p4, p5⟩ := hAt
        have HY := Lib.hid hy
        have CC := Lib.hid (fun W (hb : Below w.heap.size w W) => HIH.out y Y4 e4 Y5 e5 W hfy (HRY.out.below hb))
        have HBD := Lib.hid (below_drew HB.out)
        have z0 : (0 : Int) ≤ (i : Int) := by omega
        have z1 : (i : Int) < (n4 : Int) := by omega
        have z0' := eq_true z0; have z1' := eq_true z1
        clear hcK hcK' hcl hget hA3 hA2 hcc l4 r4 l5 r5 hy hfy hi
        go_wp2
        go_region_with (first | (go_at_call 25; refine (CC.out _ HBD.out).mono ?_; rintro e w6 ⟨v4, v5, rfl, hr4, hr5, hb6⟩; obtain ⟨B6, t4, rfl⟩ := Kd.R_slice hr4; obtain ⟨C6, t5, rfl⟩ := Kd.R_slice hr5; have k4 := pw_cell_below hb6 d4; obtain ⟨s0, s1, s2, s3, s4, s5⟩ := HATD.out.below hb6; have HG6 := Lib.hid (blk_below HG2D.out hb6); have f0 := blk_frozen HG6.out oo; have f1 := blk_frozen HG6.out (oo + 1); have f2 := blk_frozen HG6.out (oo + 2); have f3 := blk_frozen HG6.out (oo + 3); have f4 := blk_frozen HG6.out (oo + 4); have f5 := blk_frozen HG6.out (oo + 5); have HB6 := Aside0.mk hb6; have R4 := Aside0.mk hr4; have R5 := Aside0.mk hr5; clear hb6 hr4 hr5))
        all_goals
          have hB6 : Below wr.heap.size wr w6 := below_step (below_drew (Below.refl _ _)) HB6.out
          have hSz : wr.heap.size ≤ wr.drew.heap.size := below_size (below_drew (Below.refl _ _))
          have hgr : g < wr.heap.size := blk_lt HG2.out
          have hgb : gb < wr.heap.size := blk_lt BK.out
          have hgz : gz < wr.heap.size := blk_lt BZ.out
          have hsep := RB.out.1 g (by rw [HAD.out]; rfl)
          have hCb : ∀ k, (Value.slice C n5 cc).ownBlock = some k → k < wr.heap.size := fun k hk => by obtain ⟨inn, ho⟩ := Kd.R_own RC.out; exact own_lt ho k hk
          obtain ⟨hP1, hP2⟩ := copy_put HY.out HAD.out EN4.out (by omega) RB.out (by rfl) HCC.out hB6 R4.out R5.out (Nat.le_trans (below_size HB.out) hSz) (fun k hk _ => ⟨⟨by omega, by omega, fun he => by have := hCb k he.symm; omega⟩, by omega⟩)
          rw [HOO.out] at hP1 hP2
          have BK1 := Aside0.mk ((hP2.block gb (Nat.lt_of_lt_of_le hgb (below_size hB6)) (fun he => hsep.1 (by injection he with he; exact he.symm))).trans (blk_below BK.out hB6))
          have BZ1 := Aside0.mk ((hP2.block gz (Nat.lt_of_lt_of_le hgz (below_size hB6)) (fun he => hsep.2.1 (by injection he with he; exact he.symm))).trans (blk_below BZ.out hB6))
          have RC1 := Aside0.mk (Kd.R_grown (Kd.R_below RC.out hB6) hP2 (fun k hk he => hk.2.2 (by rw [he, HAD.out]; rfl)))
          have RB1 := Aside0.mk hP1
          have HB1 : Aside0 (Below w.heap.size w ((((((w6.setCell ⟨g, oo, none⟩ (.int .i64 y.f0)).setCell ⟨g, oo + 1, none⟩ (.int .i64 y.f1)).setCell ⟨g, oo + 2, none⟩ (.int .u64 y.f2)).setCell ⟨g, oo + 3, none⟩ (.string y.f3)).setCell ⟨g, oo + 4, none⟩ (.slice B6 y.f4.length t4)).setCell ⟨g, oo + 5, none⟩ (.slice C6 y.f5.length t5))) := Aside0.mk (below_set (below_set (below_set (below_set (below_set (below_set (below_step HB.out hB6) hg1) hg1) hg1) hg1) hg1) hg1)
          have wi : IntKind.i64.wrap ((i : Int) + 1) = (i : Int) + 1 := by rw [i64_w]; have hb := LN4.out; exact wrap_small _ (by omega) (by omega)
          clear hP1 hP2 hB6 hSz hgr hgb hgz hsep hCb g4 d4 q0 q1 q2 q3 q4 q5 p0 p1 p2 p3 p4 p5 k4 s0 s1 s2 s3 s4 s5 f0 f1 f2 f3 f4 f5 BK BZ RB RC HB
          go_wp2
          go_roundg k2
          case measure => omega
          case rel => exact ⟨i + 1, rfl, ⟨by have := HI.out; omega⟩, BK1, BZ1, RB1, RC1, HB1⟩
theorem Copy_all : ∀ d, CopyC d
  | 0 => fun x A4 c4 A5 c5 w h _ => h.elim
  | d + 1 => Copy_step d (Copy_all d)
end Go.Proofs.YtdghnfmhcnlppaaGreatDoor.Values
