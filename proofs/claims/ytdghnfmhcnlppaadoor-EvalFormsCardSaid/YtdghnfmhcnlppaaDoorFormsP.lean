/- The law EvalForms: what its nine ways make of a pipe and an Env that are; none of them may be. -/
import Derived.Test.YtdghnfmhcnlppaaDoorAwake19
namespace Go.Proofs.YtdghnfmhcnlppaaDoor.Eval
open Go.RowKit Go.Proofs.YtdghnfmhcnlppaaDoor.Q Go.Proofs.YtdghnfmhcnlppaaDoor.Real Go.Proofs.YtdghnfmhcnlppaaDoor.RealPure Go.Proofs.YtdghnfmhcnlppaaDoor.Values Go.Proofs.YtdghnfmhcnlppaaDoor.Fns Go.Proofs.YtdghnfmhcnlppaaDoorW.PrintWords Go.Proofs.YtdghnfmhcnlppaaDoorW.PrintLast Go.Proofs.YtdghnfmhcnlppaaDoorW.PrintMore
set_option linter.unusedSimpArgs false
set_option linter.unusedVariables false

abbrev aZ : Ag := ⟨0, ⟨#[]⟩, [], 0, ⟨#[]⟩⟩
abbrev pZ : List Cm := [⟨⟨#[]⟩, [aZ]⟩]
def eZ : En := ⟨numV 3, [⟨⟨#[120]⟩, numV 1⟩]⟩
theorem pipeZ : pipeR pZ eZ = (⟨2, 3, 0, ⟨#[]⟩, [], []⟩, 0) := by kernel_rfl
theorem bad_pipe {p : List Cm} (e : En) (h : Pipe.mayP p = false) : pipeR p e = (z33, 1900) := by unfold pipeR; rw [h]; rfl
theorem bad_env (p : List Cm) {e : En} (h : envB e = false) : pipeR p e = (z33, 1900) := by unfold pipeR; rw [h, Bool.and_false]; rfl
theorem good_leafE {v : V} {nm : ByteArray} {x : V} (h4 : v.f4 = []) (h5 : v.f5 = []) (h2 : v.f2 = 0) (g : ∀ d, rngD d x) : goodE ⟨v, [⟨nm, x⟩]⟩ :=
  ⟨(good_leaf h4 h5 h2).1, fun y hy => by rw [List.mem_singleton.1 hy]; exact g⟩
/-- The blocks of the pipe, of the Env and of the first answer. -/
structure Fe (w W : World) (ga gp gv ge g8 : Nat) (E : Option Addr) (e : Nat) (F : Option Addr) (f : Nat) : Prop where
  A : W.heap[ga]? = some (.cells #[.int .i64 0, .string ⟨#[]⟩, .slice none 0 0, .int .i64 0, .string ⟨#[]⟩] 25 (0, 0))
  P : W.heap[gp]? = some (.cells #[.string ⟨#[]⟩, .slice (some ⟨ga, 0, none⟩) 1 1] 28 (0, 0))
  V : W.heap[gv]? = some (.cells #[.string ⟨#[120]⟩, .int .i64 2, .int .i64 1, .int .u64 0, .string ⟨#[]⟩, .slice none 0 0, .slice none 0 0] 36 (0, 0))
  N : W.heap[ge]? = some (.cells #[.int .i64 2, .int .i64 3, .int .u64 0, .string ⟨#[]⟩, .slice none 0 0, .slice none 0 0, .slice (some ⟨gv, 0, none⟩) 1 1] 39 (0, 0))
  X : W.heap[g8]? = some (.cells #[.int .i64 2, .int .i64 3, .int .u64 0, .string ⟨#[]⟩, .slice E 0 e, .slice F 0 f] 33 (0, 0))
  B : Below w.heap.size w W
  la : w.heap.size ≤ ga
  lp : w.heap.size ≤ gp
  lv : w.heap.size ≤ gv
  le : w.heap.size ≤ ge
/-- A pipe in a slot and an Env in a box, of which one may not be; the first answer's box. -/
def BadE (w W : World) (ge g8 : Nat) (E8 : Option Addr) (e8 : Nat) (F8 : Option Addr) (f8 : Nat) (v : Value) : Prop := ∃ (A : Option Addr) (cp : Nat) (p : List Cm) (e : En) (A4 : Option Addr) (c4 : Nat) (A5 : Option Addr) (c5 : Nat) (A6 : Option Addr) (c6 : Nat),
  v = .slice A p.length cp ∧ p.length ≤ cp ∧ Kd.C kC W A p.length p ∧ pipeR p e = (z33, 1900) ∧ W.heap[ge]? = some (envO e A4 c4 A5 c5 A6 c6) ∧ RowsE W e A4 c4 A5 c5 A6 c6 ∧ goodE e ∧
    W.heap[g8]? = some (.cells #[.int .i64 2, .int .i64 3, .int .u64 0, .string ⟨#[]⟩, .slice E8 0 e8, .slice F8 0 f8] 33 (0, 0)) ∧ Below w.heap.size w W
theorem reps_var (W : World) (x : Vr) {A4 : Option Addr} {c4 : Nat} {A5 : Option Addr} {c5 : Nat} (h : Rows4 W x.f1 A4 c4 A5 c5) :
    Reps (kX.K W) 7 [x] [.string x.f0, .int .i64 x.f1.f0, .int .i64 x.f1.f1, .int .u64 x.f1.f2, .string x.f1.f3, .slice A4 x.f1.f4.length c4, .slice A5 x.f1.f5.length c5] := by
  have hk := K_var W x h
  have h2 := (Reps.none (kX.K W) 7).snoc hk (kX.K_len hk)
  simpa using h2
theorem C_arg {W : World} {g : Nat} (a : Ag) (h2 : a.f2 = []) (h : W.heap[g]? = some (.cells #[.int .i64 a.f0, .string a.f1, .slice none 0 0, .int .i64 a.f3, .string a.f4] 25 (0, 0))) : Kd.C kA W (some ⟨g, 0, none⟩) 1 [a] := by
  obtain ⟨f0, f1, f2, f3, f4⟩ := a
  dsimp only at h2
  subst h2
  exact block_C kA (xs := [⟨f0, f1, [], f3, f4⟩]) h (reps_arg W ⟨f0, f1, [], f3, f4⟩ (A2 := none) (c2 := 0) (Kd.C_nil _ _) (Nat.le_refl _)) (by simp)
theorem C_cmd {W : World} {g : Nat} (c : Cm) {A1 : Option Addr} {c1 : Nat} (hc : Kd.C kA W A1 c.f1.length c.f1) (hl : c.f1.length ≤ c1) (h : W.heap[g]? = some (.cells #[.string c.f0, .slice A1 c.f1.length c1] 28 (0, 0))) : Kd.C kC W (some ⟨g, 0, none⟩) 1 [c] :=
  block_C kC (xs := [c]) h (reps_cmd W c hc hl) (by simp)
theorem C_var {W : World} {g : Nat} (v : Vr) (h4 : v.f1.f4 = []) (h5 : v.f1.f5 = []) (h : W.heap[g]? = some (.cells #[.string v.f0, .int .i64 v.f1.f0, .int .i64 v.f1.f1, .int .u64 v.f1.f2, .string v.f1.f3, .slice none 0 0, .slice none 0 0] 36 (0, 0))) : Kd.C kX W (some ⟨g, 0, none⟩) 1 [v] := by
  have hr := reps_var W v (rows_nil W v.f1 h4 h5)
  rw [h4, h5] at hr
  exact block_C kX (xs := [v]) h hr (by simp)
theorem Fe.args {w W : World} {ga gp gv ge g8 : Nat} {E : Option Addr} {e : Nat} {F : Option Addr} {f : Nat} (h : Fe w W ga gp gv ge g8 E e F f) : Kd.C kA W (some ⟨ga, 0, none⟩) 1 [aZ] := C_arg aZ rfl h.A
theorem Fe.pipe {w W : World} {ga gp gv ge g8 : Nat} {E : Option Addr} {e : Nat} {F : Option Addr} {f : Nat} (h : Fe w W ga gp gv ge g8 E e F f) : Kd.C kC W (some ⟨gp, 0, none⟩) 1 pZ := C_cmd ⟨⟨#[]⟩, [aZ]⟩ h.args (Nat.le_refl _) h.P
theorem Fe.vars {w W : World} {ga gp gv ge g8 : Nat} {E : Option Addr} {e : Nat} {F : Option Addr} {f : Nat} (h : Fe w W ga gp gv ge g8 E e F f) : Kd.C kX W (some ⟨gv, 0, none⟩) 1 [⟨⟨#[120]⟩, numV 1⟩] := C_var ⟨⟨#[120]⟩, numV 1⟩ rfl rfl h.V
theorem rows_leaf (W : World) (v : V) (h4 : v.f4 = []) (h5 : v.f5 = []) {x : List Vr} {A6 : Option Addr} {c6 : Nat} (hx : Kd.C kX W A6 x.length x) (hl : x.length ≤ c6) : RowsE W ⟨v, x⟩ none 0 none 0 A6 c6 := ⟨rows_nil W v h4 h5, hx, hl⟩
theorem goodZ : goodE eZ := good_leafE rfl rfl rfl (good_leaf rfl rfl rfl).1
section
variable {w W : World} {ga gp gv ge g8 : Nat} {E : Option Addr} {e : Nat} {F : Option Addr} {f : Nat}
theorem bad_0 (h : Fe w W ga gp gv ge g8 E e F f) : BadE w W ge g8 E e F f (.slice none 0 0) :=
  ⟨none, 0, [], eZ, none, 0, none, 0, _, 1, rfl, Nat.le_refl _, Kd.C_nil _ _, bad_pipe _ rfl, h.N, rows_leaf W (numV 3) rfl rfl h.vars (Nat.le_refl _), goodZ, h.X, h.B⟩
theorem bad_1 (h : Fe w W ga gp gv ge g8 E e F f) : BadE w (W.setCell ⟨gp, 1, none⟩ (.slice none 0 0)) ge g8 E e F f (.slice (some ⟨gp, 0, none⟩) 1 1) := by
  have hP := blk_put h.P 1 (.slice none 0 0) (cs' := #[.string ⟨#[]⟩, .slice none 0 0]) rfl
  have hV := blk_far h.V (p := ⟨gp, 1, none⟩) (blk_ne h.V h.P (by decide)) (.slice none 0 0)
  have hE := blk_far h.N (p := ⟨gp, 1, none⟩) (blk_ne h.N h.P (by decide)) (.slice none 0 0)
  have hX := blk_far h.X (p := ⟨gp, 1, none⟩) (blk_ne h.X h.P (by decide)) (.slice none 0 0)
  exact ⟨_, 1, [⟨⟨#[]⟩, []⟩], eZ, none, 0, none, 0, _, 1, rfl, Nat.le_refl _, C_cmd ⟨⟨#[]⟩, []⟩ (A1 := none) (c1 := 0) (Kd.C_nil _ _) (Nat.le_refl _) hP, bad_pipe _ (by kernel_rfl), hE, rows_leaf _ (numV 3) rfl rfl (C_var ⟨⟨#[120]⟩, numV 1⟩ rfl rfl hV) (Nat.le_refl _), goodZ, hX, below_set h.B h.lp⟩
theorem bad_2 (h : Fe w W ga gp gv ge g8 E e F f) : BadE w (W.setCell ⟨gp, 0, none⟩ (.string ⟨#[110, 111, 112, 101]⟩)) ge g8 E e F f (.slice (some ⟨gp, 0, none⟩) 1 1) := by
  have hP := blk_put h.P 0 (.string ⟨#[110, 111, 112, 101]⟩) (cs' := #[.string ⟨#[110, 111, 112, 101]⟩, .slice (some ⟨ga, 0, none⟩) 1 1]) rfl
  have hA := blk_far h.A (p := ⟨gp, 0, none⟩) (blk_ne h.A h.P (by decide)) (.string ⟨#[110, 111, 112, 101]⟩)
  have hV := blk_far h.V (p := ⟨gp, 0, none⟩) (blk_ne h.V h.P (by decide)) (.string ⟨#[110, 111, 112, 101]⟩)
  have hE := blk_far h.N (p := ⟨gp, 0, none⟩) (blk_ne h.N h.P (by decide)) (.string ⟨#[110, 111, 112, 101]⟩)
  have hX := blk_far h.X (p := ⟨gp, 0, none⟩) (blk_ne h.X h.P (by decide)) (.string ⟨#[110, 111, 112, 101]⟩)
  exact ⟨_, 1, [⟨⟨#[110, 111, 112, 101]⟩, [aZ]⟩], eZ, none, 0, none, 0, _, 1, rfl, Nat.le_refl _, C_cmd ⟨⟨#[110, 111, 112, 101]⟩, [aZ]⟩ (C_arg aZ rfl hA) (Nat.le_refl _) hP, bad_pipe _ (by kernel_rfl), hE, rows_leaf _ (numV 3) rfl rfl (C_var ⟨⟨#[120]⟩, numV 1⟩ rfl rfl hV) (Nat.le_refl _), goodZ, hX, below_set h.B h.lp⟩
theorem may_kind (k : Int) (h : 5 < k) : Pipe.mayP [⟨⟨#[]⟩, [⟨k, ⟨#[]⟩, [], 0, ⟨#[]⟩⟩]⟩] = false := by
  have ha : Pipe.amB ⟨k, ⟨#[]⟩, [], 0, ⟨#[]⟩⟩ = false := by
    unfold Pipe.amB
    dsimp only
    rw [beq_eq_false_iff_ne.2 (show k ≠ 0 by omega), beq_eq_false_iff_ne.2 (show k ≠ 1 by omega), beq_eq_false_iff_ne.2 (show k ≠ 2 by omega), beq_eq_false_iff_ne.2 (show k ≠ 3 by omega), beq_eq_false_iff_ne.2 (show k ≠ 4 by omega), beq_eq_false_iff_ne.2 (show k ≠ 5 by omega)]
    rfl
  have hc : Pipe.cmB true ⟨⟨#[]⟩, [⟨k, ⟨#[]⟩, [], 0, ⟨#[]⟩⟩]⟩ = false := by
    unfold Pipe.cmB
    dsimp only
    rw [List.all_cons, ha, Bool.false_and, Bool.and_false]
  unfold Pipe.mayP
  show (true && true && (Pipe.cmB true ⟨⟨#[]⟩, [⟨k, ⟨#[]⟩, [], 0, ⟨#[]⟩⟩]⟩ && true)) = false
  rw [hc]; rfl
theorem bad_3 (h : Fe w W ga gp gv ge g8 E e F f) (k : Int) (hk : 5 < k) : BadE w (W.setCell ⟨ga, 0, none⟩ (.int .i64 k)) ge g8 E e F f (.slice (some ⟨gp, 0, none⟩) 1 1) := by
  have hA := blk_put h.A 0 (.int .i64 k) (cs' := #[.int .i64 k, .string ⟨#[]⟩, .slice none 0 0, .int .i64 0, .string ⟨#[]⟩]) rfl
  have hP := blk_far h.P (p := ⟨ga, 0, none⟩) (blk_ne h.P h.A (by decide)) (.int .i64 k)
  have hV := blk_far h.V (p := ⟨ga, 0, none⟩) (blk_ne h.V h.A (by decide)) (.int .i64 k)
  have hE := blk_far h.N (p := ⟨ga, 0, none⟩) (blk_ne h.N h.A (by decide)) (.int .i64 k)
  have hX := blk_far h.X (p := ⟨ga, 0, none⟩) (blk_ne h.X h.A (by decide)) (.int .i64 k)
  exact ⟨_, 1, [⟨⟨#[]⟩, [⟨k, ⟨#[]⟩, [], 0, ⟨#[]⟩⟩]⟩], eZ, none, 0, none, 0, _, 1, rfl, Nat.le_refl _, C_cmd ⟨⟨#[]⟩, [⟨k, ⟨#[]⟩, [], 0, ⟨#[]⟩⟩]⟩ (C_arg ⟨k, ⟨#[]⟩, [], 0, ⟨#[]⟩⟩ rfl hA) (Nat.le_refl _) hP, bad_pipe _ (may_kind k hk), hE, rows_leaf _ (numV 3) rfl rfl (C_var ⟨⟨#[120]⟩, numV 1⟩ rfl rfl hV) (Nat.le_refl _), goodZ, hX, below_set h.B h.la⟩
/-- The pipe twice: a new row that shares its arguments. -/
theorem bad_4 {W1 : World} {A : Option Addr} {c : Nat} (h : Fe w W ga gp gv ge g8 E e F f) (hb : Below w.heap.size w W1) (hC : Kd.C kC W1 A 2 [⟨⟨#[]⟩, [aZ]⟩, ⟨⟨#[]⟩, [aZ]⟩]) (hc : 2 ≤ c) (hV : W1.heap[gv]? = W.heap[gv]?) (hE : W1.heap[ge]? = W.heap[ge]?) (hX : W1.heap[g8]? = W.heap[g8]?) : BadE w W1 ge g8 E e F f (.slice A 2 c) :=
  ⟨_, c, [⟨⟨#[]⟩, [aZ]⟩, ⟨⟨#[]⟩, [aZ]⟩], eZ, none, 0, none, 0, _, 1, rfl, hc, hC, bad_pipe _ (by kernel_rfl), hE.trans h.N, rows_leaf _ (numV 3) rfl rfl (C_var ⟨⟨#[120]⟩, numV 1⟩ rfl rfl (hV.trans h.V)) (Nat.le_refl _), goodZ, hX.trans h.X, hb⟩
theorem bad_5 (h : Fe w W ga gp gv ge g8 E e F f) : BadE w (W.setCell ⟨ge, 0, none⟩ (.int .i64 99)) ge g8 E e F f (.slice (some ⟨gp, 0, none⟩) 1 1) := by
  have hE := blk_put h.N 0 (.int .i64 99) (cs' := #[.int .i64 99, .int .i64 3, .int .u64 0, .string ⟨#[]⟩, .slice none 0 0, .slice none 0 0, .slice (some ⟨gv, 0, none⟩) 1 1]) rfl
  have hA := blk_far h.A (p := ⟨ge, 0, none⟩) (blk_ne h.A h.N (by decide)) (.int .i64 99)
  have hP := blk_far h.P (p := ⟨ge, 0, none⟩) (blk_ne h.P h.N (by decide)) (.int .i64 99)
  have hV := blk_far h.V (p := ⟨ge, 0, none⟩) (blk_ne h.V h.N (by decide)) (.int .i64 99)
  have hX := blk_far h.X (p := ⟨ge, 0, none⟩) (blk_ne h.X h.N (by decide)) (.int .i64 99)
  exact ⟨_, 1, pZ, ⟨⟨99, 3, 0, ⟨#[]⟩, [], []⟩, [⟨⟨#[120]⟩, numV 1⟩]⟩, none, 0, none, 0, _, 1, rfl, Nat.le_refl _, C_cmd ⟨⟨#[]⟩, [aZ]⟩ (C_arg aZ rfl hA) (Nat.le_refl _) hP, bad_env _ (by kernel_rfl), hE, rows_leaf _ ⟨99, 3, 0, ⟨#[]⟩, [], []⟩ rfl rfl (C_var ⟨⟨#[120]⟩, numV 1⟩ rfl rfl hV) (Nat.le_refl _), good_leafE rfl rfl rfl (good_leaf rfl rfl rfl).1, hX, below_set h.B h.le⟩
theorem bad_6 (h : Fe w W ga gp gv ge g8 E e F f) : BadE w (W.setCell ⟨gv, 0, none⟩ (.string ⟨#[49]⟩)) ge g8 E e F f (.slice (some ⟨gp, 0, none⟩) 1 1) := by
  have hV := blk_put h.V 0 (.string ⟨#[49]⟩) (cs' := #[.string ⟨#[49]⟩, .int .i64 2, .int .i64 1, .int .u64 0, .string ⟨#[]⟩, .slice none 0 0, .slice none 0 0]) rfl
  have hA := blk_far h.A (p := ⟨gv, 0, none⟩) (blk_ne h.A h.V (by decide)) (.string ⟨#[49]⟩)
  have hP := blk_far h.P (p := ⟨gv, 0, none⟩) (blk_ne h.P h.V (by decide)) (.string ⟨#[49]⟩)
  have hE := blk_far h.N (p := ⟨gv, 0, none⟩) (blk_ne h.N h.V (by decide)) (.string ⟨#[49]⟩)
  have hX := blk_far h.X (p := ⟨gv, 0, none⟩) (blk_ne h.X h.V (by decide)) (.string ⟨#[49]⟩)
  exact ⟨_, 1, pZ, ⟨numV 3, [⟨⟨#[49]⟩, numV 1⟩]⟩, none, 0, none, 0, _, 1, rfl, Nat.le_refl _, C_cmd ⟨⟨#[]⟩, [aZ]⟩ (C_arg aZ rfl hA) (Nat.le_refl _) hP, bad_env _ (by kernel_rfl), hE, rows_leaf _ (numV 3) rfl rfl (C_var ⟨⟨#[49]⟩, numV 1⟩ rfl rfl hV) (Nat.le_refl _), good_leafE rfl rfl rfl (good_leaf rfl rfl rfl).1, hX, below_set h.B h.lv⟩
theorem rng_bits (d : Nat) : rngD d ⟨2, 1, 1, ⟨#[]⟩, [], []⟩ := by
  cases d with
  | zero => trivial
  | succ d => exact ⟨by decide, by decide, fun z hz => by cases hz⟩
theorem bad_7 (h : Fe w W ga gp gv ge g8 E e F f) : BadE w (W.setCell ⟨gv, 3, none⟩ (.int .u64 1)) ge g8 E e F f (.slice (some ⟨gp, 0, none⟩) 1 1) := by
  have hV := blk_put h.V 3 (.int .u64 1) (cs' := #[.string ⟨#[120]⟩, .int .i64 2, .int .i64 1, .int .u64 1, .string ⟨#[]⟩, .slice none 0 0, .slice none 0 0]) rfl
  have hA := blk_far h.A (p := ⟨gv, 3, none⟩) (blk_ne h.A h.V (by decide)) (.int .u64 1)
  have hP := blk_far h.P (p := ⟨gv, 3, none⟩) (blk_ne h.P h.V (by decide)) (.int .u64 1)
  have hE := blk_far h.N (p := ⟨gv, 3, none⟩) (blk_ne h.N h.V (by decide)) (.int .u64 1)
  have hX := blk_far h.X (p := ⟨gv, 3, none⟩) (blk_ne h.X h.V (by decide)) (.int .u64 1)
  exact ⟨_, 1, pZ, ⟨numV 3, [⟨⟨#[120]⟩, ⟨2, 1, 1, ⟨#[]⟩, [], []⟩⟩]⟩, none, 0, none, 0, _, 1, rfl, Nat.le_refl _, C_cmd ⟨⟨#[]⟩, [aZ]⟩ (C_arg aZ rfl hA) (Nat.le_refl _) hP, bad_env _ (by kernel_rfl), hE, rows_leaf _ (numV 3) rfl rfl (C_var ⟨⟨#[120]⟩, ⟨2, 1, 1, ⟨#[]⟩, [], []⟩⟩ rfl rfl hV) (Nat.le_refl _), good_leafE rfl rfl rfl rng_bits, hX, below_set h.B h.lv⟩
/-- Too many variables. -/
theorem bad_8 {W1 : World} {A : Option Addr} {n c : Nat} {ok : Nat → Prop} (h : Fe w W ga gp gv ge g8 E e F f) (hn : 32 < n) (hb : Below W.heap.size W W1) (hR : kX.R 36 W1 W.heap.size ok (.slice A n c) (List.replicate n z36)) : BadE w (W1.setCell ⟨ge, 6, none⟩ (.slice A n c)) ge g8 E e F f (.slice (some ⟨gp, 0, none⟩) 1 1) := by
  have hE := blk_put (blk_below h.N hb) 6 (.slice A n c) (cs' := #[.int .i64 2, .int .i64 3, .int .u64 0, .string ⟨#[]⟩, .slice none 0 0, .slice none 0 0, .slice A n c]) rfl
  have hA := blk_far (blk_below h.A hb) (p := ⟨ge, 6, none⟩) (blk_ne h.A h.N (by decide)) (.slice A n c)
  have hP := blk_far (blk_below h.P hb) (p := ⟨ge, 6, none⟩) (blk_ne h.P h.N (by decide)) (.slice A n c)
  have hX := blk_far (blk_below h.X hb) (p := ⟨ge, 6, none⟩) (blk_ne h.X h.N (by decide)) (.slice A n c)
  have hB : Below w.heap.size w (W1.setCell ⟨ge, 6, none⟩ (.slice A n c)) := below_set (below_step h.B hb) h.le
  have hgE := blk_lt h.N
  have hR2 := Kd.R_far (Kd.R_bound hR) (p := ⟨ge, 6, none⟩) (fun k hk => by have := hk.2.1; show k ≠ ge; omega) (.slice A n c)
  obtain ⟨_, hl, hC⟩ := Kd.R_reads' hR2
  rw [List.length_replicate] at hC
  have hlen : (List.replicate n z36).length = n := List.length_replicate
  have hv : envB ⟨numV 3, List.replicate n z36⟩ = false := by
    unfold envB
    dsimp only
    rw [hlen, decide_eq_false (by omega), Bool.and_false, Bool.false_and]
  refine ⟨_, 1, pZ, ⟨numV 3, List.replicate n z36⟩, none, 0, none, 0, A, c, rfl, Nat.le_refl _, C_cmd ⟨⟨#[]⟩, [aZ]⟩ (C_arg aZ rfl hA) (Nat.le_refl _) hP, bad_env _ hv, ?_, ⟨rows_nil _ (numV 3) rfl rfl, by rw [hlen]; exact hC, by rw [hlen]; exact hl⟩, ⟨(good_leaf rfl rfl rfl).1, fun v hv d => ?_⟩, hX, hB⟩
  · show _ = some (Obj.cells #[_, _, _, _, _, _, .slice A (List.replicate n z36).length c] _ _)
    rw [hlen]
    exact hE
  · rw [(List.mem_replicate.1 hv).2]
    exact (good_leaf rfl rfl rfl).1 d
/-- The pipe's row, as a row of one's own that shares what it holds. -/
theorem Fe.own {wA : World} (h : Fe w W ga gp gv ge g8 E e F f) (hA : wA.heap[ga]? = some (.cells #[.int .i64 0, .string ⟨#[]⟩, .slice none 0 0, .int .i64 0, .string ⟨#[]⟩] 25 (0, 0))) (hp : wA.heap.size ≤ gp) : (oldK kC wA).R 28 W wA.heap.size (fun _ => True) (.slice (some ⟨gp, 0, none⟩) 1 1) pZ := by
  have hr := reps_cmd wA ⟨⟨#[]⟩, [aZ]⟩ (C_arg aZ rfl hA) (Nat.le_refl _)
  exact ⟨fun _ _ => trivial, [.string ⟨#[]⟩, .slice (some ⟨ga, 0, none⟩) 1 1], ⟨rfl, .inr ⟨gp, 1, _, rfl, hp, h.P, Nat.le_refl _, by decide, rfl, rfl⟩⟩, hr⟩
theorem mod9 (a : Int) : ∃ r : Int, Int.tmod (IntKind.u64.wrap a) 9 = r ∧ 0 ≤ r ∧ r < 9 := by
  have e : IntKind.u64.wrap a = a % 18446744073709551616 := rfl
  have h0 : 0 ≤ a % 18446744073709551616 := by omega
  obtain ⟨n, hn⟩ := Int.eq_ofNat_of_zero_le h0
  refine ⟨_, rfl, ?_⟩
  rw [e, hn]
  have e2 : Int.tmod (n : Int) 9 = ((n % 9 : Nat) : Int) := rfl
  rw [e2]
  omega
theorem and63 (a : Int) : ∃ d : Int, wrap64 (1 + bits BinOp.and IntKind.i64 a 63) = d ∧ 1 ≤ d ∧ d ≤ 64 := by
  have hc : (BitVec.ofInt 64 63).toNat = 2 ^ 6 - 1 := by decide
  have key : (BitVec.ofInt 64 a &&& BitVec.ofInt 64 63).toNat = (a % ((2 ^ 64 : Nat) : Int)).toNat % 2 ^ 6 := by
    rw [BitVec.toNat_and, BitVec.toNat_ofInt, hc, Nat.and_two_pow_sub_one_eq_mod]
  have hv : bits .and .i64 a 63 = ((a % ((2 ^ 64 : Nat) : Int)).toNat % 2 ^ 6 : Nat) := by
    show IntKind.i64.wrap ((BitVec.ofInt 64 a &&& BitVec.ofInt 64 63).toNat : Nat) = _
    rw [key, IntKind.wrap_i64]
    omega
  have hlt : (a % ((2 ^ 64 : Nat) : Int)).toNat % 2 ^ 6 < 2 ^ 6 := Nat.mod_lt _ (by decide)
  refine ⟨_, rfl, ?_, ?_⟩ <;> (rw [hv, Values.wrap_small _ (by omega) (by omega)]; omega)
end
end Go.Proofs.YtdghnfmhcnlppaaDoor.Eval
