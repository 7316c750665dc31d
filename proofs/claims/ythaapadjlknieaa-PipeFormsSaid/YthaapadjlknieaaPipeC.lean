/- Package pipe, walked: a word as an argument. -/
import Derived.Test.YthaapadjlknieaaPipeB
import Derived.Laws.CopyOwn
import Derived.Laws.Tables
import Derived.Laws.Rows
import Derived.Lib.LazyBuf
import Derived.Laws.OwnMore
namespace Go.Proofs.Ythaapadjlknieaa.Pipe
open Go.RowKit Go.Proofs.Ythaapadjlknieaa.Q Go.Proofs.YthaapadjlknieaaW.PrintWords Go.Proofs.YthaapadjlknieaaW.PrintLast Go.Proofs.YthaapadjlknieaaW.PrintMore
set_option linter.unusedSimpArgs false
set_option linter.unusedVariables false

/-- A whole value is stored into a block of its own, as an event: the block, the others, what is below. -/
theorem row_event {P : Program} {W : World} {ops : Array Oper} {rest : List Oper} {o : Oper} {a : Act} {Q : Exit → Act → World → Prop} (hgd : o.guard = none) (hN : o.dst = none) {ty : TypeId} {x y : Operand} (ho : o.op = .store ty x y)
    {g : Nat} {cells : Array Value} (hx : a.eval x = .pointer (some ⟨g, 0, none⟩)) (hy : a.eval y = .agg cells) {t : TypeId} {old : Array Value} (hg : W.heap[g]? = some (.cells old t (0, 0)))
    (hi : (P.info? ty).map (·.size) = some cells.size) (hold : old.size = cells.size) (h1 : cells.all (·.oneCell') = true)
    (h : ∀ w', w'.heap[g]? = some (.cells cells t (0, 0)) → (∀ k, k ≠ g → w'.heap[k]? = W.heap[k]?) → (∀ {w0 : World}, w0.heap.size ≤ g → Below w0.heap.size w0 W → Below w0.heap.size w0 w') → wpList P ops Q rest a w') :
    wpList P ops Q (o :: rest) a W := by
  refine wpList_store_row hgd ty x y ho g cells hx hy t old hg hi hold h1 ?_
  rw [hN]
  exact h _ (setRow_heap W g old cells t (0, 0) hg) (fun k hk => setRow_other W g k cells hk) (fun hB hb => below_setRow hb hB cells)
theorem results_cell_row_tmp {P : Program} {fn : Func} {p u : Tmp} {ty : TypeId} (h : fn.results = #[.cell p ty, .tmp u]) (tmps : Array Value) (w : World) (g : Nat) (t : TypeId) (cs : Array Value) (fr : Nat × Nat) (d : TypeDesc)
    (hp : tmps.getD p undef = .pointer (some ⟨g, 0, none⟩)) (hg : w.heap[g]? = some (.cells cs t fr))
    (hu : P.underlying ty = some d) (hd : (match d with | .struct _ | .array _ _ => true | _ => false) = true) (hi : (P.info? ty).map (·.size) = some cs.size) :
    (results fn tmps).run P w = .ok (.tuple #[.agg cs, tmps.getD u undef]) w := by
  have hp' : tmps[p]?.getD undef = .pointer (some ⟨g, 0, none⟩) := by simpa using hp
  simp [results, h, hp', asAddr, run_loadVar_row w g t ty cs fr d hg hu hd hi]
theorem sizeA : (Try.prog.info? 41).map (·.size) = some 5 := by kernel_rfl
theorem sizeC : (Try.prog.info? 38).map (·.size) = some 2 := by kernel_rfl
theorem sizeW : (Try.prog.info? 45).map (·.size) = some 4 := by kernel_rfl

/-! ### slices.Clone of texts -/
theorem qT (w : World) (a : Option Addr) (n c n' c' : Nat) : (binOp .eql 39 (.slice a n c) (.slice none n' c')).run Try.prog w = .ok (.bool a.isNone) w := Lib.run_eql_slice_nil w _ _ a n c n' c' Try.underlying39
set_option maxRecDepth 100000 in
theorem cloneT_nil (n c : Nat) (w : World) : Calls Try.prog 40 #[.slice none n c] w fun e w' => e = .returned (.slice none 0 0) ∧ w' = w := by
  have q := qT
  go_enter Try.func40, Try.ntmps40
  go_wp2
  go_ret
  exact ⟨rfl, rfl⟩
set_option maxHeartbeats 4000000 in
set_option maxRecDepth 100000 in
theorem cloneT_some (a : Addr) (n c : Nat) (news : List Value) (w : World) (hl : news.length = n * 1) (hn : n ≤ 8388608) (hc : ∀ j u, news[j]? = some u → w.cell? (a.add j) = some u) (h1 : ∀ u ∈ news, u.oneCell' = true) :
    Calls Try.prog 40 #[.slice (some a) n c] w fun e w' => ∃ v', e = .returned v' ∧ w'.ownsRow w.heap.size 9 1 v' n news ∧ Below w.heap.size w w' := by
  have q := qT
  obtain ⟨i0, hi, hz0, hz1, hz2⟩ := info_parts Q.info9
  have A : Aside0 (∀ j u, news[j]? = some u → w.cell? (a.add j) = some u) := ⟨hc⟩
  clear hc
  go_enter Try.func40, Try.ntmps40
  go_wp2_with (at_builtin; refine wpList_append_own _ rfl _ _ 39 rfl w.heap.size 9 i0 _ 1 16 Try.underlying39 hi hz0 hz1 hz2 rfl (by decide) _ _ _ rfl (World.ownsRow_made w #[] 0 (Nat.le_refl _) (Nat.zero_le _) (by simp)) a n c news rfl ?qc1 ?qc2 ?qc3 ?qc4 ?qc5 ?qc6 ?_)
  case qc1 => exact hl
  case qc2 =>
    intro j u hj
    exact pw_cell_below (below_alloc (Below.refl _ _) _) (A.out j u hj)
  case qc3 => exact h1
  case qc4 => unfold maxLen; omega
  case qc5 => omega
  case qc6 => simp
  intro v' w1 hown hgrow hnil
  go_wp2
  go_ret
  refine ⟨v', rfl, by simpa using hown, ?_⟩
  exact ((Below.refl _ w).alloc (Nat.le_refl _) _).grown hgrow (by simp) (by intro k hk; simp [Value.ownBlock] at hk; omega)
theorem own_form {w : World} {base : Nat} {e : TypeId} {size n : Nat} {v : Value} {xs : List Value} (h : w.ownsRow base e size v n xs) : ∃ B cb, v = .slice B n cb ∧ n ≤ cb := by
  rcases h.2 with ⟨rfl, rfl⟩ | ⟨g, cap, cur, rfl, _, _, hc, _⟩
  · exact ⟨none, 0, rfl, Nat.le_refl _⟩
  · exact ⟨_, cap, rfl, hc⟩
theorem cloneT (A : Option Addr) (c : Nat) (xs : List ByteArray) (w : World) (h : Kd.C Kd.string w A xs.length xs) (hn : xs.length ≤ 8388608) :
    Calls Try.prog 40 #[.slice A xs.length c] w fun e w' => (∃ B cb, e = .returned (.slice B xs.length cb) ∧ Kd.string.R 9 w' w.heap.size (fun _ => True) (.slice B xs.length cb) xs) ∧ Below w.heap.size w w' := by
  cases A with
  | none =>
    have h0 : xs = [] := by
      cases xs with
      | nil => rfl
      | cons x ys => obtain ⟨ad, e, _⟩ := h.2.2 (by simp); cases e
    subst h0
    exact (cloneT_nil 0 c w).mono fun e w' ⟨h1, h2⟩ => by subst h2; exact ⟨⟨none, 0, h1, Kd.R_nil _ _ _ _ _⟩, Below.refl _ _⟩
  | some a =>
    obtain ⟨inner, hr, hc⟩ := ReadsRow.inner_ h
    refine (cloneT_some a xs.length c inner w hr.1 hn hc (Kd.reps_one hr (by decide) (fun _ _ hp => Kd.string.K_one (w := w) hp))).mono fun e w' ⟨v', h1, h2, h3⟩ => ?_
    obtain ⟨B, cb, rfl, _⟩ := own_form h2
    exact ⟨⟨B, cb, h1, ⟨fun _ _ => trivial, inner, h2, hr⟩⟩, h3⟩

/-! ### arg -/
def argF (x : Wd) : Ag × Bool := match argP x with | some a => (a, true) | none => (⟨0, ⟨#[]⟩, [], 0, ⟨#[]⟩⟩, false)
abbrev zerosA : Obj := .cells #[.int .i64 0, .string ⟨#[]⟩, .slice none 0 0, .int .i64 0, .string ⟨#[]⟩] 41
/-- What arg answers. -/
def ArgAns (w : World) (a : Ag) (b : Bool) (e : Ending) (w' : World) : Prop := ∃ v2, e = .returned (.tuple #[.agg #[.int .i64 a.f0, .string a.f1, v2, .int .i64 a.f3, .string a.f4], .bool b]) ∧ Kd.string.R 9 w' w.heap.size (fun _ => True) v2 a.f2 ∧ Below w.heap.size w w'
theorem arg_nil {w w' : World} {a : Ag} {b : Bool} (h2 : a.f2 = []) (hb : Below w.heap.size w w') : ArgAns w a b (.returned (.tuple #[.agg #[.int .i64 a.f0, .string a.f1, .slice none 0 0, .int .i64 a.f3, .string a.f4], .bool b])) w' :=
  ⟨_, rfl, by rw [h2]; exact Kd.R_nil _ _ _ _ _, hb⟩

theorem five_put {W : World} {g : Nat} {t : TypeId} {a0 a1 a2 a3 a4 : Value} (h : W.heap[g]? = some (.cells #[a0, a1, a2, a3, a4] t (0, 0))) (b0 b1 b2 b3 b4 : Value) :
    (((((W.setCell ⟨g, 0, none⟩ b0).setCell ⟨g, 1, none⟩ b1).setCell ⟨g, 2, none⟩ b2).setCell ⟨g, 3, none⟩ b3).setCell ⟨g, 4, none⟩ b4).heap[g]? = some (.cells #[b0, b1, b2, b3, b4] t (0, 0)) :=
  blk_put (blk_put (blk_put (blk_put (blk_put h 0 _ rfl) 1 _ rfl) 2 _ rfl) 3 _ rfl) 4 _ rfl
theorem five_other {W : World} {g : Nat} (b0 b1 b2 b3 b4 : Value) (k : Nat) (hk : k ≠ g) :
    (((((W.setCell ⟨g, 0, none⟩ b0).setCell ⟨g, 1, none⟩ b1).setCell ⟨g, 2, none⟩ b2).setCell ⟨g, 3, none⟩ b3).setCell ⟨g, 4, none⟩ b4).heap[k]? = W.heap[k]? :=
  (Below.heap_setCell _ _ _ k hk).trans ((Below.heap_setCell _ _ _ k hk).trans ((Below.heap_setCell _ _ _ k hk).trans ((Below.heap_setCell _ _ _ k hk).trans (Below.heap_setCell _ _ _ k hk))))
theorem five_below {w W : World} {g : Nat} (h : Below w.heap.size w W) (hg : w.heap.size ≤ g) (b0 b1 b2 b3 b4 : Value) :
    Below w.heap.size w (((((W.setCell ⟨g, 0, none⟩ b0).setCell ⟨g, 1, none⟩ b1).setCell ⟨g, 2, none⟩ b2).setCell ⟨g, 3, none⟩ b3).setCell ⟨g, 4, none⟩ b4) :=
  below_set (below_set (below_set (below_set (below_set h hg) hg) hg) hg) hg
theorem arg_put {w w4 w5 w8 : World} {v : Value} {l : List ByteArray} (h : Kd.string.R 9 w5 w4.heap.size (fun _ => True) v l) (h4 : w.heap.size < w4.heap.size) (ho : ∀ k, k ≠ w.heap.size → w8.heap[k]? = w5.heap[k]?) : Kd.string.R 9 w8 w.heap.size (fun _ => True) v l :=
  Kd.R_mono (Kd.R_lower (Kd.R_move (Kd.R_bound h) (fun k hk => ho k (by have := hk.2.1; omega))) (Nat.le_of_lt h4)) (fun _ _ => trivial)
set_option maxHeartbeats 8000000 in
set_option maxRecDepth 100000 in
theorem arg_calls (p : Addr) (x : Wd) (A2 : Option Addr) (c2 : Nat) (w : World) (h : AtW w p x A2 c2) (hr : Kd.C Kd.string w A2 x.f2.length x.f2) (hl : x.f2.length ≤ 8388608) :
    Calls Try.prog 32 #[.pointer (some p)] w (ArgAns w (argF x).1 (argF x).2) := by
  have hu := Try.underlying41
  have CT := Lib.hid (fun W (hb : Below w.heap.size w W) => cloneT A2 c2 x.f2 W (Kd.C_below hr hb) hl)
  have H1 := h.below (below_alloc (Below.refl _ w) zerosA)
  have GZ : w.heap.size < (w.alloc zerosA).heap.size := by simp
  have A2' := Lib.hid (blk_new w zerosA)
  have A3' := Lib.hid (below_alloc (Below.refl _ w) zerosA)
  have HGZ := Lib.hid GZ
  clear h hr hl GZ
  obtain ⟨R, hR⟩ : ∃ R, argF x = R := ⟨_, rfl⟩
  rw [hR]
  unfold argF argP at hR
  refine kinds_of x.f0 _ fun b0 b1 b2 b3 b4 b5 e0 e1 e2 e3 e4 e5 hm => ?_
  have P0 : (x.f0 = 0) ↔ b0 = true := by rw [← e0]; exact beq_iff_eq.symm
  have P1 : (x.f0 = 1) ↔ b1 = true := by rw [← e1]; exact beq_iff_eq.symm
  have P2 : (x.f0 = 2) ↔ b2 = true := by rw [← e2]; exact beq_iff_eq.symm
  have P3 : (x.f0 = 3) ↔ b3 = true := by rw [← e3]; exact beq_iff_eq.symm
  have P4 : (x.f0 = 4) ↔ b4 = true := by rw [← e4]; exact beq_iff_eq.symm
  simp only [P0, P1, P2, P3, P4] at hR
  clear P0 P1 P2 P3 P4
  have HQ0 := Lib.hid (fun W (hb : Below w.heap.size w W) => H1)
  obtain ⟨g0, g1, g2, g3⟩ := H1
  clear HQ0
  generalize hl2 : x.f2 = l2 at *
  generalize x.f0 = k at *
  generalize x.f1 = s at *
  generalize x.f3 = i at *
  (simp only [List.mem_cons, List.not_mem_nil, or_false, Prod.mk.injEq] at hm; rcases hm with ⟨rfl, rfl, rfl, rfl, rfl, rfl⟩ | ⟨rfl, rfl, rfl, rfl, rfl, rfl⟩ | ⟨rfl, rfl, rfl, rfl, rfl, rfl⟩ | ⟨rfl, rfl, rfl, rfl, rfl, rfl⟩ | ⟨rfl, rfl, rfl, rfl, rfl, rfl⟩ | ⟨rfl, rfl, rfl, rfl, rfl, rfl⟩ | ⟨rfl, rfl, rfl, rfl, rfl, rfl⟩)
  · -- a name
    simp only [if_true, Bool.false_eq_true, if_false] at hR
    by_cases t1 : s.toList = trueL
    · rw [if_pos t1] at hR
      subst hR
      have u1 : (s.toList == ([116, 114, 117, 101] : List UInt8)) = true := beq_iff_eq.2 t1
      clear t1
      go_enter Try.func32, Try.ntmps32
      go_upto_region 1 with (fail)
      generalize hw4 : w.alloc zerosA = w4 at *
      clear hw4
      go_wp2_with (first | (go_at_call 40; refine (CT.out _ (by first | exact A3'.out | exact below_drew A3'.out)).mono ?_; rintro e w5 ⟨⟨B, cb, rfl, hR5⟩, hb5⟩; have BZ5 := Lib.hid (blk_below (by first | exact A2'.out | exact blk_drew A2'.out) hb5); have HB5 := Lib.hid (below_step (by first | exact A3'.out | exact below_drew A3'.out) hb5); have HR5 := Lib.hid hR5; (try (have g1' := pw_cell_below hb5 g1)); (try (have g2' := pw_cell_below hb5 g2)); (try (have q1' := pw_cell_below hb5 q1)); (try (have q2' := pw_cell_below hb5 q2)); clear hb5 hR5) | ((with_reducible refine gate_store (t := 41) (p := 2) rfl ?_); refine row_event (by rfl) (by rfl) (by rfl) (by rfl) (by rfl) (by first | exact BZ5.out | exact A2'.out) (by exact sizeA) (by rfl) (by first | rfl | simp [Value.oneCell']) ?_; intro w8 hz8 ho8 hb8; have Z8 := Lib.hid hz8; have HO8 := Lib.hid ho8; have HB8 := Lib.hid (hb8 (Nat.le_refl _) (by first | exact HB5.out | exact A3'.out)); clear hb8 ho8 hz8))
      refine bodyPost_ret (results_cell_row_tmp rfl _ _ w.heap.size 41 _ (0, 0) _ rfl Z8.out hu rfl (by exact sizeA)) rfl ?_
      exact arg_nil rfl HB8.out
    rw [if_neg t1] at hR
    have u1 : (s.toList == ([116, 114, 117, 101] : List UInt8)) = false := beq_eq_false_iff_ne.2 t1
    clear t1
    by_cases t2 : s.toList = falseL
    · rw [if_pos t2] at hR
      subst hR
      have u2 : (s.toList == ([102, 97, 108, 115, 101] : List UInt8)) = true := beq_iff_eq.2 t2
      clear t2
      go_enter Try.func32, Try.ntmps32
      go_upto_region 1 with (fail)
      generalize hw4 : w.alloc zerosA = w4 at *
      clear hw4
      go_wp2_with (first | (go_at_call 40; refine (CT.out _ (by first | exact A3'.out | exact below_drew A3'.out)).mono ?_; rintro e w5 ⟨⟨B, cb, rfl, hR5⟩, hb5⟩; have BZ5 := Lib.hid (blk_below (by first | exact A2'.out | exact blk_drew A2'.out) hb5); have HB5 := Lib.hid (below_step (by first | exact A3'.out | exact below_drew A3'.out) hb5); have HR5 := Lib.hid hR5; (try (have g1' := pw_cell_below hb5 g1)); (try (have g2' := pw_cell_below hb5 g2)); (try (have q1' := pw_cell_below hb5 q1)); (try (have q2' := pw_cell_below hb5 q2)); clear hb5 hR5) | ((with_reducible refine gate_store (t := 41) (p := 2) rfl ?_); refine row_event (by rfl) (by rfl) (by rfl) (by rfl) (by rfl) (by first | exact BZ5.out | exact A2'.out) (by exact sizeA) (by rfl) (by first | rfl | simp [Value.oneCell']) ?_; intro w8 hz8 ho8 hb8; have Z8 := Lib.hid hz8; have HO8 := Lib.hid ho8; have HB8 := Lib.hid (hb8 (Nat.le_refl _) (by first | exact HB5.out | exact A3'.out)); clear hb8 ho8 hz8))
      refine bodyPost_ret (results_cell_row_tmp rfl _ _ w.heap.size 41 _ (0, 0) _ rfl Z8.out hu rfl (by exact sizeA)) rfl ?_
      exact arg_nil rfl HB8.out
    rw [if_neg t2] at hR
    have u2 : (s.toList == ([102, 97, 108, 115, 101] : List UInt8)) = false := beq_eq_false_iff_ne.2 t2
    clear t2
    by_cases t3 : s.toList = nullL
    · rw [if_pos t3] at hR
      subst hR
      have u3 : (s.toList == ([110, 117, 108, 108] : List UInt8)) = true := beq_iff_eq.2 t3
      clear t3
      go_enter Try.func32, Try.ntmps32
      go_upto_region 1 with (fail)
      generalize hw4 : w.alloc zerosA = w4 at *
      clear hw4
      go_wp2_with (first | (go_at_call 40; refine (CT.out _ (by first | exact A3'.out | exact below_drew A3'.out)).mono ?_; rintro e w5 ⟨⟨B, cb, rfl, hR5⟩, hb5⟩; have BZ5 := Lib.hid (blk_below (by first | exact A2'.out | exact blk_drew A2'.out) hb5); have HB5 := Lib.hid (below_step (by first | exact A3'.out | exact below_drew A3'.out) hb5); have HR5 := Lib.hid hR5; (try (have g1' := pw_cell_below hb5 g1)); (try (have g2' := pw_cell_below hb5 g2)); (try (have q1' := pw_cell_below hb5 q1)); (try (have q2' := pw_cell_below hb5 q2)); clear hb5 hR5) | ((with_reducible refine gate_store (t := 41) (p := 2) rfl ?_); refine row_event (by rfl) (by rfl) (by rfl) (by rfl) (by rfl) (by first | exact BZ5.out | exact A2'.out) (by exact sizeA) (by rfl) (by first | rfl | simp [Value.oneCell']) ?_; intro w8 hz8 ho8 hb8; have Z8 := Lib.hid hz8; have HO8 := Lib.hid ho8; have HB8 := Lib.hid (hb8 (Nat.le_refl _) (by first | exact HB5.out | exact A3'.out)); clear hb8 ho8 hz8))
      refine bodyPost_ret (results_cell_row_tmp rfl _ _ w.heap.size 41 _ (0, 0) _ rfl Z8.out hu rfl (by exact sizeA)) rfl ?_
      exact arg_nil rfl HB8.out
    rw [if_neg t3] at hR
    have u3 : (s.toList == ([110, 117, 108, 108] : List UInt8)) = false := beq_eq_false_iff_ne.2 t3
    clear t3
    subst hR
    go_enter Try.func32, Try.ntmps32
    go_upto_region 1 with (fail)
    generalize hw4 : w.alloc zerosA = w4 at *
    clear hw4
    go_wp2_with (first | (go_at_call 40; refine (CT.out _ (by first | exact A3'.out | exact below_drew A3'.out)).mono ?_; rintro e w5 ⟨⟨B, cb, rfl, hR5⟩, hb5⟩; have BZ5 := Lib.hid (blk_below (by first | exact A2'.out | exact blk_drew A2'.out) hb5); have HB5 := Lib.hid (below_step (by first | exact A3'.out | exact below_drew A3'.out) hb5); have HR5 := Lib.hid hR5; (try (have g1' := pw_cell_below hb5 g1)); (try (have g2' := pw_cell_below hb5 g2)); (try (have q1' := pw_cell_below hb5 q1)); (try (have q2' := pw_cell_below hb5 q2)); clear hb5 hR5) | ((with_reducible refine gate_store (t := 41) (p := 2) rfl ?_); refine row_event (by rfl) (by rfl) (by rfl) (by rfl) (by rfl) (by first | exact BZ5.out | exact A2'.out) (by exact sizeA) (by rfl) (by first | rfl | simp [Value.oneCell']) ?_; intro w8 hz8 ho8 hb8; have Z8 := Lib.hid hz8; have HO8 := Lib.hid ho8; have HB8 := Lib.hid (hb8 (Nat.le_refl _) (by first | exact HB5.out | exact A3'.out)); clear hb8 ho8 hz8))
    refine bodyPost_ret (results_cell_row_tmp rfl _ _ w.heap.size 41 _ (0, 0) _ rfl Z8.out hu rfl (by exact sizeA)) rfl ?_
    exact arg_nil rfl HB8.out
  · -- a path
    simp only [if_true] at hR
    subst hR
    go_enter Try.func32, Try.ntmps32
    go_upto_region 1 with (fail)
    generalize hw4 : w.alloc zerosA = w4 at *
    clear hw4
    go_wp2_with (first | (go_at_call 40; refine (CT.out _ (by first | exact A3'.out | exact below_drew A3'.out)).mono ?_; rintro e w5 ⟨⟨B, cb, rfl, hR5⟩, hb5⟩; have BZ5 := Lib.hid (blk_below (by first | exact A2'.out | exact blk_drew A2'.out) hb5); have HB5 := Lib.hid (below_step (by first | exact A3'.out | exact below_drew A3'.out) hb5); have HR5 := Lib.hid hR5; (try (have g1' := pw_cell_below hb5 g1)); (try (have g2' := pw_cell_below hb5 g2)); (try (have q1' := pw_cell_below hb5 q1)); (try (have q2' := pw_cell_below hb5 q2)); clear hb5 hR5) | ((with_reducible refine gate_store (t := 41) (p := 2) rfl ?_); refine row_event (by rfl) (by rfl) (by rfl) (by rfl) (by rfl) (by first | exact BZ5.out | exact A2'.out) (by exact sizeA) (by rfl) (by first | rfl | simp [Value.oneCell']) ?_; intro w8 hz8 ho8 hb8; have Z8 := Lib.hid hz8; have HO8 := Lib.hid ho8; have HB8 := Lib.hid (hb8 (Nat.le_refl _) (by first | exact HB5.out | exact A3'.out)); clear hb8 ho8 hz8))
    refine bodyPost_ret (results_cell_row_tmp rfl _ _ w.heap.size 41 _ (0, 0) _ rfl Z8.out hu rfl (by exact sizeA)) rfl ?_
    exact ⟨_, rfl, arg_put HR5.out HGZ.out HO8.out, HB8.out⟩
  · -- a variable
    simp only [if_true, Bool.false_eq_true, if_false] at hR
    subst hR
    go_enter Try.func32, Try.ntmps32
    go_upto_region 1 with (fail)
    generalize hw4 : w.alloc zerosA = w4 at *
    clear hw4
    go_wp2
    have q1 := pw_cell_below (below_drew (Below.refl w4.heap.size w4)) g1
    have q2 := pw_cell_below (below_drew (Below.refl w4.heap.size w4)) g2
    have HGD := Lib.hid (below_size (below_drew (Below.refl w4.heap.size w4)))
    go_region_with (first | (go_at_call 40; refine (CT.out _ (below_drew A3'.out)).mono ?_; rintro e w5 ⟨⟨B, cb, rfl, hR5⟩, hb5⟩; have BZ5 := Lib.hid (blk_below (blk_drew A2'.out) hb5); have HB5 := Lib.hid (below_step (below_drew A3'.out) hb5); have HR5 := Lib.hid hR5; have r1 := pw_cell_below hb5 q1; have z0 := (blk_cell BZ5.out 0).trans rfl; have z1 := (blk_cell BZ5.out 1).trans rfl; have z2 := (blk_cell BZ5.out 2).trans rfl; have z3 := (blk_cell BZ5.out 3).trans rfl; have z4 := (blk_cell BZ5.out 4).trans rfl; have f0 := blk_frozen BZ5.out 0; have f1 := blk_frozen BZ5.out 1; have f2 := blk_frozen BZ5.out 2; have f3 := blk_frozen BZ5.out 3; have f4 := blk_frozen BZ5.out 4; clear hb5 hR5))
    all_goals (try go_wp2)
    all_goals refine bodyPost_ret (results_cell_row_tmp rfl _ _ w.heap.size 41 _ (0, 0) _ rfl (five_put BZ5.out _ _ _ _ _) hu rfl (by exact sizeA)) rfl ?_
    all_goals exact ⟨_, rfl, arg_put HR5.out (Nat.lt_of_lt_of_le HGZ.out HGD.out) (fun k hk => five_other _ _ _ _ _ k hk), five_below HB5.out (Nat.le_refl _) _ _ _ _ _⟩
  · -- a number
    simp only [if_true, Bool.false_eq_true, if_false] at hR
    subst hR
    go_enter Try.func32, Try.ntmps32
    go_upto_region 1 with (fail)
    generalize hw4 : w.alloc zerosA = w4 at *
    clear hw4
    go_wp2_with (first | (go_at_call 40; refine (CT.out _ (by first | exact A3'.out | exact below_drew A3'.out)).mono ?_; rintro e w5 ⟨⟨B, cb, rfl, hR5⟩, hb5⟩; have BZ5 := Lib.hid (blk_below (by first | exact A2'.out | exact blk_drew A2'.out) hb5); have HB5 := Lib.hid (below_step (by first | exact A3'.out | exact below_drew A3'.out) hb5); have HR5 := Lib.hid hR5; (try (have g1' := pw_cell_below hb5 g1)); (try (have g2' := pw_cell_below hb5 g2)); (try (have q1' := pw_cell_below hb5 q1)); (try (have q2' := pw_cell_below hb5 q2)); clear hb5 hR5) | ((with_reducible refine gate_store (t := 41) (p := 2) rfl ?_); refine row_event (by rfl) (by rfl) (by rfl) (by rfl) (by rfl) (by first | exact BZ5.out | exact A2'.out) (by exact sizeA) (by rfl) (by first | rfl | simp [Value.oneCell']) ?_; intro w8 hz8 ho8 hb8; have Z8 := Lib.hid hz8; have HO8 := Lib.hid ho8; have HB8 := Lib.hid (hb8 (Nat.le_refl _) (by first | exact HB5.out | exact A3'.out)); clear hb8 ho8 hz8))
    refine bodyPost_ret (results_cell_row_tmp rfl _ _ w.heap.size 41 _ (0, 0) _ rfl Z8.out hu rfl (by exact sizeA)) rfl ?_
    exact arg_nil rfl HB8.out
  · -- a text
    simp only [if_true, Bool.false_eq_true, if_false] at hR
    subst hR
    go_enter Try.func32, Try.ntmps32
    go_upto_region 1 with (fail)
    generalize hw4 : w.alloc zerosA = w4 at *
    clear hw4
    go_wp2_with (first | (go_at_call 40; refine (CT.out _ (by first | exact A3'.out | exact below_drew A3'.out)).mono ?_; rintro e w5 ⟨⟨B, cb, rfl, hR5⟩, hb5⟩; have BZ5 := Lib.hid (blk_below (by first | exact A2'.out | exact blk_drew A2'.out) hb5); have HB5 := Lib.hid (below_step (by first | exact A3'.out | exact below_drew A3'.out) hb5); have HR5 := Lib.hid hR5; (try (have g1' := pw_cell_below hb5 g1)); (try (have g2' := pw_cell_below hb5 g2)); (try (have q1' := pw_cell_below hb5 q1)); (try (have q2' := pw_cell_below hb5 q2)); clear hb5 hR5) | ((with_reducible refine gate_store (t := 41) (p := 2) rfl ?_); refine row_event (by rfl) (by rfl) (by rfl) (by rfl) (by rfl) (by first | exact BZ5.out | exact A2'.out) (by exact sizeA) (by rfl) (by first | rfl | simp [Value.oneCell']) ?_; intro w8 hz8 ho8 hb8; have Z8 := Lib.hid hz8; have HO8 := Lib.hid ho8; have HB8 := Lib.hid (hb8 (Nat.le_refl _) (by first | exact HB5.out | exact A3'.out)); clear hb8 ho8 hz8))
    refine bodyPost_ret (results_cell_row_tmp rfl _ _ w.heap.size 41 _ (0, 0) _ rfl Z8.out hu rfl (by exact sizeA)) rfl ?_
    exact arg_nil rfl HB8.out
  · -- a bar
    simp only [if_true, Bool.false_eq_true, if_false] at hR
    subst hR
    go_enter Try.func32, Try.ntmps32
    go_upto_region 1 with (fail)
    generalize hw4 : w.alloc zerosA = w4 at *
    clear hw4
    go_wp2_with (first | (go_at_call 40; refine (CT.out _ (by first | exact A3'.out | exact below_drew A3'.out)).mono ?_; rintro e w5 ⟨⟨B, cb, rfl, hR5⟩, hb5⟩; have BZ5 := Lib.hid (blk_below (by first | exact A2'.out | exact blk_drew A2'.out) hb5); have HB5 := Lib.hid (below_step (by first | exact A3'.out | exact below_drew A3'.out) hb5); have HR5 := Lib.hid hR5; (try (have g1' := pw_cell_below hb5 g1)); (try (have g2' := pw_cell_below hb5 g2)); (try (have q1' := pw_cell_below hb5 q1)); (try (have q2' := pw_cell_below hb5 q2)); clear hb5 hR5) | ((with_reducible refine gate_store (t := 41) (p := 2) rfl ?_); refine row_event (by rfl) (by rfl) (by rfl) (by rfl) (by rfl) (by first | exact BZ5.out | exact A2'.out) (by exact sizeA) (by rfl) (by first | rfl | simp [Value.oneCell']) ?_; intro w8 hz8 ho8 hb8; have Z8 := Lib.hid hz8; have HO8 := Lib.hid ho8; have HB8 := Lib.hid (hb8 (Nat.le_refl _) (by first | exact HB5.out | exact A3'.out)); clear hb8 ho8 hz8))
    refine bodyPost_ret (results_cell_row_tmp rfl _ _ w.heap.size 41 _ (0, 0) _ rfl Z8.out hu rfl (by exact sizeA)) rfl ?_
    exact arg_nil rfl HB8.out
  · -- another kind
    simp only [if_true, Bool.false_eq_true, if_false] at hR
    subst hR
    go_enter Try.func32, Try.ntmps32
    go_upto_region 1 with (fail)
    generalize hw4 : w.alloc zerosA = w4 at *
    clear hw4
    go_wp2_with (first | (go_at_call 40; refine (CT.out _ (by first | exact A3'.out | exact below_drew A3'.out)).mono ?_; rintro e w5 ⟨⟨B, cb, rfl, hR5⟩, hb5⟩; have BZ5 := Lib.hid (blk_below (by first | exact A2'.out | exact blk_drew A2'.out) hb5); have HB5 := Lib.hid (below_step (by first | exact A3'.out | exact below_drew A3'.out) hb5); have HR5 := Lib.hid hR5; (try (have g1' := pw_cell_below hb5 g1)); (try (have g2' := pw_cell_below hb5 g2)); (try (have q1' := pw_cell_below hb5 q1)); (try (have q2' := pw_cell_below hb5 q2)); clear hb5 hR5) | ((with_reducible refine gate_store (t := 41) (p := 2) rfl ?_); refine row_event (by rfl) (by rfl) (by rfl) (by rfl) (by rfl) (by first | exact BZ5.out | exact A2'.out) (by exact sizeA) (by rfl) (by first | rfl | simp [Value.oneCell']) ?_; intro w8 hz8 ho8 hb8; have Z8 := Lib.hid hz8; have HO8 := Lib.hid ho8; have HB8 := Lib.hid (hb8 (Nat.le_refl _) (by first | exact HB5.out | exact A3'.out)); clear hb8 ho8 hz8))
    refine bodyPost_ret (results_cell_row_tmp rfl _ _ w.heap.size 41 _ (0, 0) _ rfl Z8.out hu rfl (by exact sizeA)) rfl ?_
    exact arg_nil rfl HB8.out
end Go.Proofs.Ythaapadjlknieaa.Pipe
