/- What the laws of chapter 19 share: leaves, rows that are written down, SameValue of a value with itself. -/
import Derived.Test.YtdghnfmhcnlppaaGreatDoorEvalF
import Derived.Test.YtdghnfmhcnlppaaGreatDoorSv
namespace Go.Proofs.YtdghnfmhcnlppaaGreatDoor.Eval
open Go.RowKit Go.Proofs.YtdghnfmhcnlppaaGreatDoor.Q Go.Proofs.YtdghnfmhcnlppaaGreatDoor.Real Go.Proofs.YtdghnfmhcnlppaaGreatDoor.RealPure Go.Proofs.YtdghnfmhcnlppaaGreatDoor.Values Go.Proofs.YtdghnfmhcnlppaaGreatDoor.Fns Go.Proofs.YtdghnfmhcnlppaaGreatDoorW.PrintWords Go.Proofs.YtdghnfmhcnlppaaGreatDoorW.PrintLast Go.Proofs.YtdghnfmhcnlppaaGreatDoorW.PrintMore
set_option linter.unusedSimpArgs false
set_option linter.unusedVariables false

theorem eqX_refl (l : List ByteArray) : ∀ m i, eqFrom l l m i = true
  | 0, _ => rfl
  | m + 1, i => by unfold eqFrom; rw [eqX_refl l m (i + 1), beq_self_eq_true]; rfl
theorem textsX_refl (l : List ByteArray) : textsB l l = true := by unfold textsB; rw [eqX_refl, decide_eq_true rfl]; rfl
theorem sameX_refl (f : V → V → Bool) : ∀ l : List V, (∀ z ∈ l, f z z = true) → sameL f l l = true
  | [], _ => rfl
  | y :: ys, h => by unfold sameL; rw [h y List.mem_cons_self, sameX_refl f ys (fun z hz => h z (List.mem_cons_of_mem _ hz))]; rfl
theorem svX_refl : ∀ d x, deepD d x → svD d x x = true
  | 0, x, h => h.elim
  | d + 1, x, h => by
    unfold svD
    rw [textsX_refl, sameX_refl (svD d) x.f4 (fun z hz => svX_refl d z (h z hz))]
    simp
theorem sv_same (x : V) (A4 : Option Addr) (c4 : Nat) (A5 : Option Addr) (c5 : Nat) (B4 : Option Addr) (d4 : Nat) (B5 : Option Addr) (d5 : Nat) (w : World) (h : Rows4 w x A4 c4 A5 c5) (h' : Rows4 w x B4 d4 B5 d5) :
    Calls Tryz.prog 10 #[arg x A4 c4 A5 c5, arg x B4 d4 B5 d5] w fun e w' => e = .returned (.bool true) ∧ Below w.heap.size w w' := by
  obtain ⟨d, hd⟩ := deep_any x
  have q := sv_all d x x A4 c4 A5 c5 B4 d4 B5 d5 w hd h h'
  rw [svX_refl d x hd] at q
  exact q
theorem numB (i : Int) (W : World) : Calls Tryz.prog 11 #[.int .i64 i] W fun e w' => e = .returned (.int .i64 i) ∧ Below W.heap.size W w' :=
  (stolelaw0_Num.calls i i W rfl).mono fun e w' ⟨h, hd⟩ => ⟨h, Drawn0.below hd⟩
set_option maxHeartbeats 4000000 in
set_option maxRecDepth 100000 in
theorem num_calls (i : Int) (w : World) : Calls Tryz.prog 18 #[.int .i64 i] w fun e w' => e = .returned (arg (numV i) none 0 none 0) ∧ Below w.heap.size w w' := by
  have hu27 := Tryz.underlying27
  go_enter Tryz.func18, Tryz.ntmps18
  go_wp2
  refine bodyPost_ret (results_cell_row rfl _ _ w.heap.size 27 _ (0, 0) _ rfl (blk_new w _) hu27 rfl (by exact size27)) rfl ?_
  exact ⟨rfl, below_alloc (Below.refl _ _) _⟩
/-! ### rows that are written down -/
theorem row_lit {α : Type} (kd : Kd α) (e : Nat) (W : World) (xs : List α) (cs : List Value) (h : Reps (kd.K W) kd.sz xs cs) (hl : xs.length ≤ 9223372036854775807) : Kd.C kd (W.alloc (.cells cs.toArray e)) (some ⟨W.heap.size, 0, none⟩) xs.length xs := by
  have ho := OwnRow.lit (e := e) W W.heap.size h (Nat.le_refl _) hl
  obtain ⟨A, c, he, _, hr⟩ := OwnRow.reads ho
  have hA : A = some ⟨W.heap.size, 0, none⟩ := by injection he with e1; exact e1.symm
  subst hA
  exact hr.imp_ (Below.refl _ _) (fun p c hp => kd.K_below (below_alloc (Below.refl _ _) _) hp)
section
variable {P : Program} {ops : Array Oper} {rest : List Oper} {o : Oper} {a : Act} {Q : Exit → Act → World → Prop}
theorem lit_row {α : Type} (kd : Kd α) (e n : Nat) {W : World} (hgd : o.guard = none) {N : Tmp} (_hd : o.dst = some N) {xs : List α} {inner : List Value} (hn : xs.length = n)
    (hrun : (execOp a.eval o).run P W = .ok (.value (.slice (some ⟨W.heap.size, 0, none⟩) n n)) (W.alloc (.cells inner.toArray e)))
    (hrep : Reps (kd.K W) kd.sz xs inner) (hm : n ≤ 9223372036854775807)
    (h : ∀ ad w1, Kd.C kd w1 (some ad) n xs → Below W.heap.size W w1 → wpList P ops Q rest (a.put o.dst (.slice (some ad) n n)) w1) : wpList P ops Q (o :: rest) a W := by
  subst hn
  exact Kd.event_run hgd hrun (h _ _ (row_lit kd e W xs inner hrep hm) (below_alloc (Below.refl _ _) _))
end
theorem reps_str (W : World) (s : ByteArray) : Reps (Kd.string.K W) Kd.string.sz [s] [.string s] := by
  have h := (Reps.none (Kd.string.K W) 1).snoc (show Kd.string.K W s [.string s] from rfl) rfl
  exact h
theorem K_arg (W : World) (x : Ag) {A2 : Option Addr} {c2 : Nat} (h : Kd.C Kd.string W A2 x.f2.length x.f2) (hc : x.f2.length ≤ c2) : kA.K W x [.int .i64 x.f0, .string x.f1, .slice A2 x.f2.length c2, .int .i64 x.f3, .string x.f4] := k57_mk W x hc h
theorem reps_arg (W : World) (x : Ag) {A2 : Option Addr} {c2 : Nat} (h : Kd.C Kd.string W A2 x.f2.length x.f2) (hc : x.f2.length ≤ c2) : Reps (kA.K W) 5 [x] [.int .i64 x.f0, .string x.f1, .slice A2 x.f2.length c2, .int .i64 x.f3, .string x.f4] := by
  have hk := K_arg W x h hc
  have h2 := (Reps.none (kA.K W) 5).snoc hk (kA.K_len hk)
  simpa using h2
theorem K_cmd (W : World) (x : Cm) {A1 : Option Addr} {c1 : Nat} (h : Kd.C kA W A1 x.f1.length x.f1) (hc : x.f1.length ≤ c1) : kC.K W x [.string x.f0, .slice A1 x.f1.length c1] := k50_mk W x hc h
theorem reps_cmd (W : World) (x : Cm) {A1 : Option Addr} {c1 : Nat} (h : Kd.C kA W A1 x.f1.length x.f1) (hc : x.f1.length ≤ c1) : Reps (kC.K W) 2 [x] [.string x.f0, .slice A1 x.f1.length c1] := by
  have hk := K_cmd W x h hc
  have h2 := (Reps.none (kC.K W) 2).snoc hk (kC.K_len hk)
  simpa using h2
theorem reps_cmd2 (W : World) (x y : Cm) {A1 : Option Addr} {c1 : Nat} {B1 : Option Addr} {d1 : Nat} (h : Kd.C kA W A1 x.f1.length x.f1) (hc : x.f1.length ≤ c1) (h' : Kd.C kA W B1 y.f1.length y.f1) (hd : y.f1.length ≤ d1) :
    Reps (kC.K W) 2 [x, y] [.string x.f0, .slice A1 x.f1.length c1, .string y.f0, .slice B1 y.f1.length d1] := by
  have hk := K_cmd W x h hc
  have hk2 := K_cmd W y h' hd
  have h2 := ((Reps.none (kC.K W) 2).snoc hk (kC.K_len hk)).snoc hk2 (kC.K_len hk2)
  simpa using h2
theorem K_var (W : World) (x : Vr) {A4 : Option Addr} {c4 : Nat} {A5 : Option Addr} {c5 : Nat} (h : Rows4 W x.f1 A4 c4 A5 c5) : kX.K W x [.string x.f0, .int .i64 x.f1.f0, .int .i64 x.f1.f1, .int .u64 x.f1.f2, .string x.f1.f3, .slice A4 x.f1.f4.length c4, .slice A5 x.f1.f5.length c5] :=
  k34_mk W x h.l4 h.k4 h.l5 h.k5
theorem blk_ne {w : World} {a b : Nat} {c1 c2 : Array Value} {t1 t2 : TypeId} {f1 f2 : Nat × Nat} (h1 : w.heap[a]? = some (.cells c1 t1 f1)) (h2 : w.heap[b]? = some (.cells c2 t2 f2)) (ht : t1 ≠ t2) : a ≠ b := fun h => by
  subst h
  rw [h1] at h2
  injection h2 with h2
  injection h2 with _ h2
  exact ht h2
/-- A block that a row of cells lies in. -/
theorem block_C {α : Type} (kd : Kd α) {W : World} {g : Nat} {t : TypeId} {xs : List α} {cs : List Value} (hg : W.heap[g]? = some (.cells cs.toArray t (0, 0))) (h : Reps (kd.K W) kd.sz xs cs) (hl : xs.length ≤ 9223372036854775807) : Kd.C kd W (some ⟨g, 0, none⟩) xs.length xs := by
  refine ⟨rfl, hl, fun _ => ⟨⟨g, 0, none⟩, rfl, fun j p hj => ⟨_, kd.K_len (h.2 j p hj), h.2 j p hj, fun i u hu => ?_⟩⟩⟩
  rw [List.getElem?_take] at hu
  split at hu
  · rw [List.getElem?_drop] at hu
    show W.cell? ((⟨g, 0, none⟩ : Addr).add (j * kd.sz + i)) = some u
    rw [Addr.add_lit, blk_cell hg _]
    simpa using hu
  · cases hu
theorem row_put6 {W : World} {g : Nat} {t : TypeId} {o0 o1 o2 o3 o4 o5 : Value} (h : W.heap[g]? = some (.cells #[o0, o1, o2, o3, o4, o5] t (0, 0))) (v0 v1 v2 v3 v4 v5 : Value) : ((((((W.setCell ⟨g, 0, none⟩ v0).setCell ⟨g, 1, none⟩ v1).setCell ⟨g, 2, none⟩ v2).setCell ⟨g, 3, none⟩ v3).setCell ⟨g, 4, none⟩ v4).setCell ⟨g, 5, none⟩ v5).heap[g]? = some (.cells #[v0, v1, v2, v3, v4, v5] t (0, 0)) := by
  have h0 := blk_put h 0 v0 (show (#[o0, o1, o2, o3, o4, o5] : Array Value).setIfInBounds 0 v0 = #[v0, o1, o2, o3, o4, o5] from rfl)
  have h1 := blk_put h0 1 v1 (show (#[v0, o1, o2, o3, o4, o5] : Array Value).setIfInBounds 1 v1 = #[v0, v1, o2, o3, o4, o5] from rfl)
  have h2 := blk_put h1 2 v2 (show (#[v0, v1, o2, o3, o4, o5] : Array Value).setIfInBounds 2 v2 = #[v0, v1, v2, o3, o4, o5] from rfl)
  have h3 := blk_put h2 3 v3 (show (#[v0, v1, v2, o3, o4, o5] : Array Value).setIfInBounds 3 v3 = #[v0, v1, v2, v3, o4, o5] from rfl)
  have h4 := blk_put h3 4 v4 (show (#[v0, v1, v2, v3, o4, o5] : Array Value).setIfInBounds 4 v4 = #[v0, v1, v2, v3, v4, o5] from rfl)
  have h5 := blk_put h4 5 v5 (show (#[v0, v1, v2, v3, v4, o5] : Array Value).setIfInBounds 5 v5 = #[v0, v1, v2, v3, v4, v5] from rfl)
  exact h5
theorem row_far6 {W : World} {g k : Nat} (hk : k ≠ g) (v0 v1 v2 v3 v4 v5 : Value) : ((((((W.setCell ⟨g, 0, none⟩ v0).setCell ⟨g, 1, none⟩ v1).setCell ⟨g, 2, none⟩ v2).setCell ⟨g, 3, none⟩ v3).setCell ⟨g, 4, none⟩ v4).setCell ⟨g, 5, none⟩ v5).heap[k]? = W.heap[k]? := ((Below.heap_setCell _ ⟨g, 5, none⟩ v5 k hk).trans ((Below.heap_setCell _ ⟨g, 4, none⟩ v4 k hk).trans ((Below.heap_setCell _ ⟨g, 3, none⟩ v3 k hk).trans ((Below.heap_setCell _ ⟨g, 2, none⟩ v2 k hk).trans ((Below.heap_setCell _ ⟨g, 1, none⟩ v1 k hk).trans ((Below.heap_setCell _ ⟨g, 0, none⟩ v0 k hk).trans rfl))))))
theorem row_below6 {w W : World} {g : Nat} (h : Below w.heap.size w W) (hg : w.heap.size ≤ g) (v0 v1 v2 v3 v4 v5 : Value) : Below w.heap.size w ((((((W.setCell ⟨g, 0, none⟩ v0).setCell ⟨g, 1, none⟩ v1).setCell ⟨g, 2, none⟩ v2).setCell ⟨g, 3, none⟩ v3).setCell ⟨g, 4, none⟩ v4).setCell ⟨g, 5, none⟩ v5) := (below_set (below_set (below_set (below_set (below_set (below_set h hg) hg) hg) hg) hg) hg)
theorem row_put7 {W : World} {g : Nat} {t : TypeId} {o0 o1 o2 o3 o4 o5 o6 : Value} (h : W.heap[g]? = some (.cells #[o0, o1, o2, o3, o4, o5, o6] t (0, 0))) (v0 v1 v2 v3 v4 v5 v6 : Value) : (((((((W.setCell ⟨g, 0, none⟩ v0).setCell ⟨g, 1, none⟩ v1).setCell ⟨g, 2, none⟩ v2).setCell ⟨g, 3, none⟩ v3).setCell ⟨g, 4, none⟩ v4).setCell ⟨g, 5, none⟩ v5).setCell ⟨g, 6, none⟩ v6).heap[g]? = some (.cells #[v0, v1, v2, v3, v4, v5, v6] t (0, 0)) := by
  have h0 := blk_put h 0 v0 (show (#[o0, o1, o2, o3, o4, o5, o6] : Array Value).setIfInBounds 0 v0 = #[v0, o1, o2, o3, o4, o5, o6] from rfl)
  have h1 := blk_put h0 1 v1 (show (#[v0, o1, o2, o3, o4, o5, o6] : Array Value).setIfInBounds 1 v1 = #[v0, v1, o2, o3, o4, o5, o6] from rfl)
  have h2 := blk_put h1 2 v2 (show (#[v0, v1, o2, o3, o4, o5, o6] : Array Value).setIfInBounds 2 v2 = #[v0, v1, v2, o3, o4, o5, o6] from rfl)
  have h3 := blk_put h2 3 v3 (show (#[v0, v1, v2, o3, o4, o5, o6] : Array Value).setIfInBounds 3 v3 = #[v0, v1, v2, v3, o4, o5, o6] from rfl)
  have h4 := blk_put h3 4 v4 (show (#[v0, v1, v2, v3, o4, o5, o6] : Array Value).setIfInBounds 4 v4 = #[v0, v1, v2, v3, v4, o5, o6] from rfl)
  have h5 := blk_put h4 5 v5 (show (#[v0, v1, v2, v3, v4, o5, o6] : Array Value).setIfInBounds 5 v5 = #[v0, v1, v2, v3, v4, v5, o6] from rfl)
  have h6 := blk_put h5 6 v6 (show (#[v0, v1, v2, v3, v4, v5, o6] : Array Value).setIfInBounds 6 v6 = #[v0, v1, v2, v3, v4, v5, v6] from rfl)
  exact h6
theorem row_far7 {W : World} {g k : Nat} (hk : k ≠ g) (v0 v1 v2 v3 v4 v5 v6 : Value) : (((((((W.setCell ⟨g, 0, none⟩ v0).setCell ⟨g, 1, none⟩ v1).setCell ⟨g, 2, none⟩ v2).setCell ⟨g, 3, none⟩ v3).setCell ⟨g, 4, none⟩ v4).setCell ⟨g, 5, none⟩ v5).setCell ⟨g, 6, none⟩ v6).heap[k]? = W.heap[k]? := ((Below.heap_setCell _ ⟨g, 6, none⟩ v6 k hk).trans ((Below.heap_setCell _ ⟨g, 5, none⟩ v5 k hk).trans ((Below.heap_setCell _ ⟨g, 4, none⟩ v4 k hk).trans ((Below.heap_setCell _ ⟨g, 3, none⟩ v3 k hk).trans ((Below.heap_setCell _ ⟨g, 2, none⟩ v2 k hk).trans ((Below.heap_setCell _ ⟨g, 1, none⟩ v1 k hk).trans ((Below.heap_setCell _ ⟨g, 0, none⟩ v0 k hk).trans rfl)))))))
theorem row_below7 {w W : World} {g : Nat} (h : Below w.heap.size w W) (hg : w.heap.size ≤ g) (v0 v1 v2 v3 v4 v5 v6 : Value) : Below w.heap.size w (((((((W.setCell ⟨g, 0, none⟩ v0).setCell ⟨g, 1, none⟩ v1).setCell ⟨g, 2, none⟩ v2).setCell ⟨g, 3, none⟩ v3).setCell ⟨g, 4, none⟩ v4).setCell ⟨g, 5, none⟩ v5).setCell ⟨g, 6, none⟩ v6) := (below_set (below_set (below_set (below_set (below_set (below_set (below_set h hg) hg) hg) hg) hg) hg) hg)
end Go.Proofs.YtdghnfmhcnlppaaGreatDoor.Eval
