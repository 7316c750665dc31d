/- Package eval, walked: Reckon: the deferred closure, and the pipe's commands one behind the other. -/
import Derived.Test.YtdghnfmhcnlppaaGreatDoorEvalP
import Derived.Recover
namespace Go.Proofs.YtdghnfmhcnlppaaGreatDoor.Eval
open Go.RowKit Go.Proofs.YtdghnfmhcnlppaaGreatDoor.Q Go.Proofs.YtdghnfmhcnlppaaGreatDoor.Real Go.Proofs.YtdghnfmhcnlppaaGreatDoor.RealPure Go.Proofs.YtdghnfmhcnlppaaGreatDoor.Values Go.Proofs.YtdghnfmhcnlppaaGreatDoor.Fns Go.Proofs.YtdghnfmhcnlppaaGreatDoorW.PrintWords Go.Proofs.YtdghnfmhcnlppaaGreatDoorW.PrintLast Go.Proofs.YtdghnfmhcnlppaaGreatDoorW.PrintMore
set_option linter.unusedSimpArgs false
set_option linter.unusedVariables false

theorem assert_nil (w : World) : (Instr.typeAssert .nilIface 20 35 true).run Tryz.prog w = .ok (.tuple #[.int .i64 0, .bool false]) w := by kernel_rfl
theorem assert_code (n : Int) (w : World) : (Instr.typeAssert (.iface 35 (.int .i64 n)) 20 35 true).run Tryz.prog w = .ok (.tuple #[.int .i64 n, .bool true]) w := by kernel_rfl
set_option maxHeartbeats 4000000 in
set_option maxRecDepth 100000 in
theorem catch_idle (p q : Addr) (w : World) :
    CallsD Tryz.prog 42 #[.pointer (some p), .pointer (some q)] .returning w fun e u' w' => e = .returned (.tuple #[]) ∧ u' = .returning ∧ w' = w := by
  refine callsD_of_wpS Tryz.func42 rfl fun c₀ cs hu => ?_
  rw [Tryz.ntmps42, show (#[Value.pointer (some p), Value.pointer (some q)] ++ Array.replicate (12 - (#[Value.pointer (some p), Value.pointer (some q)] : Array Value).size) undef : Array Value) = #[.pointer (some p), .pointer (some q), undef, undef, undef, undef, undef, undef, undef, undef, undef, undef] from rfl]
  apply wpS_seq
  apply wpS_region
  simp [wpOpsS, go_sem, recoverD, hu, Exit.thenS, assert_nil]
  refine wpS_of_wp ?_
  go_wp2
  cases c₀
  simp_all [bodyPostS, results, Tryz.results42]
/-- What the closure leaves behind that caught an error's number. -/
def Caught (g1 g2 : Nat) (n : Int) (w w' : World) : Prop :=
  w'.heap[g1]? = some zeros ∧ w'.heap[g2]? = some (.cells #[.int .i64 n] 35 (0, 0)) ∧ (∀ w0 : World, w0.heap.size ≤ g1 → w0.heap.size ≤ g2 → Below w0.heap.size w0 w → Below w0.heap.size w0 w')
set_option maxHeartbeats 4000000 in
set_option maxRecDepth 100000 in
theorem catch_code (g1 g2 : Nat) (hne : g2 ≠ g1) (v0 v1 v2 v3 v4 v5 : Value) (m n : Int) (older : List PanicEntry) (w : World) (h1 : w.heap[g1]? = some (.cells #[v0, v1, v2, v3, v4, v5] 27 (0, 0))) (h2 : w.heap[g2]? = some (.cells #[.int .i64 m] 35 (0, 0))) :
    CallsD Tryz.prog 42 #[.pointer (some ⟨g1, 0, none⟩), .pointer (some ⟨g2, 0, none⟩)] (.panicking ({ v := .iface 35 (.int .i64 n), recovered := false } :: older)) w fun e u' w' =>
      e = .returned (.tuple #[]) ∧ u' = .panicking ({ v := .iface 35 (.int .i64 n), recovered := true } :: older) ∧ Caught g1 g2 n w w' := by
  have H1 := Lib.hid h1; have H2 := Lib.hid h2; have HNE := Lib.hid hne
  clear h1 h2 hne
  refine callsD_of_wpS Tryz.func42 rfl fun c₀ cs hu => ?_
  rw [Tryz.ntmps42, show (#[Value.pointer (some ⟨g1, 0, none⟩), Value.pointer (some ⟨g2, 0, none⟩)] ++ Array.replicate (12 - (#[Value.pointer (some ⟨g1, 0, none⟩), Value.pointer (some ⟨g2, 0, none⟩)] : Array Value).size) undef : Array Value) = #[.pointer (some ⟨g1, 0, none⟩), .pointer (some ⟨g2, 0, none⟩), undef, undef, undef, undef, undef, undef, undef, undef, undef, undef] from rfl]
  apply wpS_seq
  apply wpS_region
  simp [wpOpsS, go_sem, recoverD, hu, Exit.thenS, assert_code]
  refine wpS_of_wp ?_
  go_wp2_with (first | ((with_reducible refine gate_store (t := 27) (p := 0) rfl ?_); refine row_event (by rfl) (by rfl) (by rfl) (by rfl) (by rfl) H1.out (by exact size27) (by rfl) (by first | rfl | simp [Value.oneCell']) ?_; intro w8 hz8 ho8 hb8; have Z8 := Lib.hid hz8; have E8 := Lib.hid ((ho8 _ HNE.out).trans H2.out); have q0 := (blk_cell E8.out 0).trans rfl; have q1 := blk_frozen E8.out 0; have HB8 := Lib.hid (show ∀ w0 : World, w0.heap.size ≤ g1 → Below w0.heap.size w0 w → Below w0.heap.size w0 w8 from fun w0 h1 h2 => hb8 h1 h2); clear hb8 ho8 hz8))
  refine ⟨rfl, _, rfl, _, by simp [results, Tryz.results42], rfl, rfl, ?_⟩
  exact ⟨blk_far Z8.out (Ne.symm HNE.out) _, blk_put E8.out 0 _ rfl, fun w0 a b c => below_set (HB8.out w0 a c) b⟩

theorem results_row_cell {P : Program} {fn : Func} {p q : Tmp} {ty tq : TypeId} (h : fn.results = #[.cell p ty, .cell q tq]) (tmps : Array Value) (w : World) (g g2 : Nat) (t : TypeId) (cs : Array Value) (fr : Nat × Nat) (d : TypeDesc) (n : Int)
    (hp : tmps.getD p undef = .pointer (some ⟨g, 0, none⟩)) (hq : tmps.getD q undef = .pointer (some ⟨g2, 0, none⟩)) (hg : w.heap[g]? = some (.cells cs t fr))
    (hu : P.underlying ty = some d) (hd : (match d with | .struct _ | .array _ _ => true | _ => false) = true) (hi : (P.info? ty).map (·.size) = some cs.size)
    (hl : (loadVar tq ⟨g2, 0, none⟩).run P w = .ok (.int .i64 n) w) :
    (results fn tmps).run P w = .ok (.tuple #[.agg cs, .int .i64 n]) w := by
  have hp' : tmps[p]?.getD undef = .pointer (some ⟨g, 0, none⟩) := by simpa using hp
  have hq' : tmps[q]?.getD undef = .pointer (some ⟨g2, 0, none⟩) := by simpa using hq
  simp [results, h, hp', hq', asAddr, run_loadVar_row w g t ty cs fr d hg hu hd hi, hl]
abbrev zeroN (n : Int) : Obj := .cells #[.int .i64 n] 35 (0, 0)
theorem load_errno (w : World) (g : Nat) (n : Int) (h : w.heap[g]? = some (zeroN n)) : (loadVar 35 ⟨g, 0, none⟩).run Tryz.prog w = .ok (.int .i64 n) w := by
  have hc : w.cell? ⟨g, 0, none⟩ = some (.int .i64 n) := (blk_cell h 0).trans rfl
  have hu := Tryz.underlying35
  simp [go_sem, loadVar, hu, hc]
/-- The rows lie, whatever becomes of the boxes that lie between the elder world and b. -/
def Lies (w : World) (b : Nat) (wr : World) (x : V) (E : Option Addr) (e : Nat) (F : Option Addr) (f : Nat) : Prop :=
  ∀ W2 : World, Below w.heap.size w W2 → (∀ k, b ≤ k → k < wr.heap.size → W2.heap[k]? = wr.heap[k]?) → Rows4 W2 x E e F f
theorem Lies.here {w wr : World} {b : Nat} {x : V} {E : Option Addr} {e : Nat} {F : Option Addr} {f : Nat} (h : Lies w b wr x E e F f) (hb : Below w.heap.size w wr) : Rows4 wr x E e F f := h wr hb (fun _ _ _ => rfl)
theorem Lies.moved {w wr w1 : World} {b : Nat} {x : V} {E : Option Addr} {e : Nat} {F : Option Addr} {f : Nat} (h : Lies w b wr x E e F f) (hs : SameFrom b wr w1) : Lies w b w1 x E e F f :=
  fun W2 hb hm => h W2 hb (fun k h1 h2 => (hm k h1 ((Array.getElem?_eq_some_iff.1 ((hs k h1 h2).trans (Array.getElem?_eq_getElem h2))).1)).trans (hs k h1 h2))
theorem lies_nil (w wr : World) (b : Nat) : Lies w b wr z27 none 0 none 0 := fun W2 _ _ => rows_nil W2 z27 rfl rfl
/-- What a command answered lies so. -/
theorem lies_cmd {w w1 w2 : World} {b : Nat} {x : V} {E : Option Addr} {e : Nat} {F : Option Addr} {f : Nat} (hb : b ≤ w1.heap.size) (h : Rows4 w x E e F f ∨ OwnV w2 w1.heap.size x E e F f) : Lies w b w2 x E e F f := by
  intro W2 hB hm
  rcases h with h | h
  · exact h.below hB
  · exact (h.same (fun k h1 h2 => hm k (Nat.le_trans hb h1) h2)).rows
/-- The block of a row of one value. -/
theorem row_one {W : World} {g : Nat} {x : V} {E : Option Addr} {e : Nat} {F : Option Addr} {f : Nat} (hg : W.heap[g]? = some (.cells #[.int .i64 x.f0, .int .i64 x.f1, .int .u64 x.f2, .string x.f3, .slice E x.f4.length e, .slice F x.f5.length f] 27 (0, 0))) (h : Rows4 W x E e F f) :
    Kd.C k27 W (some ⟨g, 0, none⟩) [x].length [x] := by
  have hK := k27_mk W x h.l4 h.k4 h.l5 h.k5
  have hr : Reps (k27.K W) 6 [x] [.int .i64 x.f0, .int .i64 x.f1, .int .u64 x.f2, .string x.f3, .slice E x.f4.length e, .slice F x.f5.length f] := reps1 hK
  refine ⟨rfl, by simp, fun _ => ⟨⟨g, 0, none⟩, rfl, fun j p hj => ⟨_, k27.K_len (hr.2 j p hj), hr.2 j p hj, fun i u hu => ?_⟩⟩⟩
  rw [List.getElem?_take] at hu
  split at hu
  · rw [List.getElem?_drop] at hu
    show W.cell? ((⟨g, 0, none⟩ : Addr).add (j * 6 + i)) = some u
    rw [Addr.add_lit, blk_cell hg _]
    simpa using hu
  · cases hu
theorem rd_C (xs : List Cm) (i : Nat) (hi : i < xs.length) : xs.drop i = rd_T50 xs (i : Int) :: xs.drop (i + 1) := Pipe.rd_C xs i hi
/-- What Reckon answers. -/
def GotE (w : World) (R : V × Int) (e : Ending) (w' : World) : Prop := ∃ A c B d, e = .returned (.tuple #[arg R.1 A c B d, .int .i64 R.2]) ∧ Rows4 w' R.1 A c B d ∧ Below w.heap.size w w'

theorem endsC_get {w0 w w' : World} {x : V} {e : Ending} (h : EndsC w0 w (x, 0) e w') : ∃ B4 d4 B5 d5, e = .returned (arg x B4 d4 B5 d5) ∧ (Rows4 w0 x B4 d4 B5 d5 ∨ OwnV w' w.heap.size x B4 d4 B5 d5) ∧ Below w.heap.size w w' := by
  obtain ⟨h1, h2⟩ := h
  obtain ⟨B4, d4, B5, d5, h3, h4⟩ := (if_pos rfl : _ = _) ▸ h1
  exact ⟨B4, d4, B5, d5, h3, h4, h2⟩
theorem endsC_err {w0 w w' : World} {x : V} {n : Int} {e : Ending} (hn : n ≠ 0) (h : EndsC w0 w (x, n) e w') : e = .panicked (chain n) ∧ Below w.heap.size w w' := by
  obtain ⟨h1, h2⟩ := h
  rw [if_neg hn] at h1
  exact ⟨h1, h2⟩
set_option maxHeartbeats 16000000 in
set_option maxRecDepth 100000 in
theorem reckon_calls (p : List Cm) (A : Option Addr) (cp : Nat) (e : En) (A4 : Option Addr) (c4 : Nat) (A5 : Option Addr) (c5 : Nat) (A6 : Option Addr) (c6 : Nat) (g : Nat) (w : World)
    (hE : w.heap[g]? = some (envO e A4 c4 A5 c5 A6 c6)) (h : RowsE w e A4 c4 A5 c5 A6 c6) (hA : Kd.C kC w A p.length p) (hp : Pipe.mayP p = true) (hok : envB e = true) (hT : Tabs w) (hgd : goodE e) :
    Calls Tryz.prog 24 #[.slice A p.length cp, .pointer (some ⟨g, 0, none⟩)] w (GotE w (reckR e p [] z27)) := by
  have hu27 := Tryz.underlying27
  have hmf : ∀ (fn : Fn) (first cap : Array Value) (w : World), (Instr.makeFunc fn first cap).run Tryz.prog w = .ok (.func fn first cap) w := fun _ _ _ _ => rfl
  have HPA := Lib.hid hA
  have HPP := Lib.hid (pipe_parts hp)
  have HT := Lib.hid hT
  have Z1 := Lib.hid (blk_alloc (blk_new w zeros) (zeroN 0))
  have Z2 := Lib.hid (blk_new (w.alloc zeros) (zeroN 0))
  have B2 := Lib.hid (below_alloc (below_alloc (Below.refl _ w) zeros) (zeroN 0))
  have S2 := Lib.hid (show w.heap.size + 2 = ((w.alloc zeros).alloc (zeroN 0)).heap.size by simp)
  have E2 := Lib.hid (show (w.alloc zeros).heap.size = w.heap.size + 1 by simp)
  rw [E2.out] at Z2
  have CC := Lib.hid (fun (c : Cm) (pc : Addr) (F1 : Option Addr) (f1 : Nat) (B : Option Addr) (cb : Nat) (before : List V) (W : World) (hb : Below w.heap.size w W) (hp0 : w.cell? pc = some (.string c.f0)) (hp1 : w.cell? ⟨pc.block, pc.off + 1, none⟩ = some (.slice F1 c.f1.length f1)) (hk1 : Kd.C kA w F1 c.f1.length c.f1) (hin : c ∈ p) (hbf : Kd.C k27 W B before.length before) (hbl : before.length ≤ 1) (hbg : ∀ z ∈ before, Good z) =>
    cmd_calls c pc F1 f1 e A4 c4 A5 c5 A6 c6 g B cb before w W hb (blk_below hE hb) h hp0 hp1 hk1 (HPP.out.2.2 c hin).1 (fun a ha => by have := (HPP.out.2.2 c hin).2.1 a ha; omega) (HPP.out.2.2 c hin).2.2 hbf hbl hok (hT.below hb) (fun z hz => (hbg z hz).1 8) (fun a ha => (argR_good e a hok hgd).1 8))
  have CG := Lib.hid (fun (c : Cm) (before : List V) (hb : ∀ z ∈ before, Good z) => cmdR_good e before c hok hgd hb)
  obtain ⟨R, hR⟩ : ∃ R, reckR e p [] z27 = R := ⟨_, rfl⟩
  rw [hR]
  have hM : reckR e (p.drop 0) [] z27 = R := hR
  clear hE h hA hp hok hT hgd hR
  obtain ⟨n, hn⟩ : ∃ n, p.length = n := ⟨_, rfl⟩
  have HN := Lib.hid hn
  rw [hn] at HPP ⊢
  clear hn
  go_enter_defers Tryz.func24, Tryz.ntmps24
  go_upto_region 1 with (fail)
  generalize hw2 : (w.alloc zeros).alloc (zeroN 0) = w2 at *
  clear hw2
  have NE12 := Lib.hid (show w.heap.size + 1 ≠ w.heap.size by omega)
  generalize hg1 : w.heap.size = g1 at Z1 Z2 S2 NE12 ⊢
  have HG1 := Lib.hid hg1
  clear hg1 E2
  generalize hg2 : g1 + 1 = g2 at Z2 NE12 ⊢
  have HG2 := Lib.hid hg2
  clear hg2
  have B2' := Aside0.mk B2.out
  go_wp2
  go_loopg [11, 6] n (fun kq v11 v6 wr => ∃ (i : Nat) (bef : List V) (B : Option Addr) (cb : Nat) (x : V) (E : Option Addr) (e4 : Nat) (Fa : Option Addr) (f4 : Nat), v11 = .int .i64 (i : Int) ∧ v6 = .slice B bef.length cb ∧ Aside0 (i + kq = n) ∧ Aside0 (bef.length ≤ 1) ∧ Aside0 (∀ z ∈ bef, Good z) ∧ Aside0 (reckR e (p.drop i) bef x = R) ∧ Aside0 (Kd.C k27 wr B bef.length bef) ∧ Aside0 (wr.heap[g1]? = some (.cells #[.int .i64 x.f0, .int .i64 x.f1, .int .u64 x.f2, .string x.f3, .slice E x.f4.length e4, .slice Fa x.f5.length f4] 27 (0, 0))) ∧ Aside0 (Lies w w2.heap.size wr x E e4 Fa f4) ∧ Aside0 (wr.heap[g2]? = some (zeroN 0)) ∧ Aside0 (Below w.heap.size w wr) ∧ Aside0 (w2.heap.size ≤ wr.heap.size))
  case atStart => exact ⟨0, [], none, 0, z27, none, 0, none, 0, rfl, rfl, ⟨by omega⟩, ⟨by decide⟩, ⟨fun z hz => by cases hz⟩, ⟨hM⟩, ⟨Kd.C_nil _ _⟩, ⟨Z1.out⟩, ⟨lies_nil _ _ _⟩, ⟨Z2.out⟩, B2', ⟨Nat.le_refl _⟩⟩
  case round =>
    clear hM
    obtain ⟨i, bef, B, cb, x, E, e4, Fa, f4, rfl, rfl, HI, HBL, HBG, HM, HBC, BX, HL, BY, HB, HS⟩ := hrel
    have hi := HI.out
    cases gk with
    | zero =>
      have hlt : decide (i < n) = false := decide_eq_false (by omega)
      have hM := HM.out
      rw [List.drop_of_length_le (by have := HN.out; omega)] at hM
      have hRt : R = (x, 0) := hM.symm
      subst hRt
      clear hi hM
      obtain ⟨s0, s1, s2, s3, s4, s5⟩ := At.of_box BX.out
      go_wp2_with (first | ((with_reducible refine gate_store (t := 27) (p := 4) rfl ?_); refine row_event (by rfl) (by rfl) (by rfl) (by rfl) (by rfl) BX.out (by exact size27) (by rfl) (by first | rfl | simp [Value.oneCell']) ?_; intro w8 hz8 ho8 hb8; have Z8 := Lib.hid hz8; have HO8 := Lib.hid ho8; have E8 := Lib.hid ((ho8 _ NE12.out).trans BY.out); have q0 := (blk_cell E8.out 0).trans rfl; have q1 := blk_frozen E8.out 0; have HB8 := Lib.hid (hb8 (Nat.le_of_eq HG1.out) HB.out); clear hb8 ho8 hz8))
      refine leaves_cons (f := 42) (args := #[.pointer (some ⟨g1, 0, none⟩), .pointer (some ⟨g2, 0, none⟩)]) (by simp) (by simp [go_sem]) ?_
      refine (catch_idle _ _ _).mono ?_
      rintro en u' w'' ⟨rfl, rfl, rfl⟩
      have hBf : Below w.heap.size w (w8.setCell ⟨g2, 0, none⟩ (.int .i64 0)) := below_set HB8.out (by have := HG1.out; have := HG2.out; show w.heap.size ≤ g2; omega)
      refine ⟨_, results_row_cell rfl _ _ g1 g2 27 _ (0, 0) _ 0 rfl rfl (blk_far Z8.out (Ne.symm NE12.out) _) hu27 rfl (by exact size27) (load_errno _ g2 0 (blk_put E8.out 0 _ rfl)), ?_⟩
      exact ⟨E, e4, Fa, f4, rfl, HL.out _ hBf (fun k h1 h2 => (Below.heap_setCell _ _ _ k (by show k ≠ g2; have := S2.out; have := HG2.out; omega)).trans (HO8.out k (by have := S2.out; omega))), hBf⟩
    | succ k2 =>
      have hlt : decide (i < n) = true := decide_eq_true (by omega)
      have hltn := eq_true (show i < n by omega)
      obtain ⟨ad, F1, f1, rfl, p0, p1, hl1, hk1⟩ := at_T50 HPA.out (i : Int) (by omega) (by have := HN.out; omega)
      have ti : (i : Int).toNat = i := by omega
      rw [ti] at p0 p1
      have wi' : IntKind.i64.wrap ((i : Int) + 1) = (i : Int) + 1 := by rw [i64_w]; exact Values.wrap_small _ (by have := HPP.out.2.1; omega) (by have := HPP.out.2.1; omega)
      have hstep := rd_C p i (by have := HN.out; omega)
      have hin : rd_T50 p (i : Int) ∈ p := List.mem_of_mem_drop (i := i) (by rw [hstep]; exact List.mem_cons_self)
      have hM := HM.out
      rw [hstep] at hM
      generalize rd_T50 p (i : Int) = c at *
      have CA := Lib.hid (CC.out c _ F1 f1 B cb bef wr HB.out p0 p1 hk1 hin HBC.out HBL.out HBG.out)
      have hg := CG.out c bef HBG.out
      clear hl1 hk1 hin hstep HM hi
      have hM2 : (if (cmdR e bef c).2 = 0 then reckR e (p.drop (i + 1)) [(cmdR e bef c).1] (cmdR e bef c).1 else (z27, (cmdR e bef c).2)) = R := hM
      clear hM p0 p1
      obtain ⟨⟨y, m⟩, hy⟩ : ∃ r, cmdR e bef c = r := ⟨_, rfl⟩
      rw [hy] at CA hM2 hg
      clear hy
      by_cases hm : m = 0
      · subst hm
        have HM2 := Aside0.mk (show reckR e (p.drop (i + 1)) [y] y = R from hM2)
        have HG := Lib.hid hg
        clear hM2 hg
        go_wp2_with (first | (go_at_call 43; (with_reducible refine CA.out.mono ?_); rintro en w5 he; obtain ⟨B4, d4, B5, d5, rfl, hr5, hb5⟩ := endsC_get he; have HL5 := Lib.hid (lies_cmd HS.out hr5); have BX5 := Lib.hid (blk_below BX.out hb5); have BY5 := Lib.hid (blk_below BY.out hb5); have HB5 := Lib.hid (below_step HB.out hb5); have HS5 := Lib.hid (Nat.le_trans HS.out (below_size hb5)); clear he hr5 hb5) | ((with_reducible refine gate_store (t := 27) (p := 4) rfl ?_); refine row_event (by rfl) (by rfl) (by rfl) (by rfl) (by rfl) BX5.out (by exact size27) (by rfl) (by first | rfl | simp [Value.oneCell']) ?_; intro w8 hz8 ho8 hb8; have Z8 := Lib.hid hz8; have HO8 := Lib.hid ho8; have E8 := Lib.hid ((ho8 _ NE12.out).trans BY5.out); have HB8 := Lib.hid (hb8 (Nat.le_of_eq HG1.out) HB5.out); obtain ⟨s0, s1, s2, s3, s4, s5⟩ := At.of_box hz8; clear hb8 ho8 hz8))
        have hsm : SameFrom w2.heap.size w5 (w8.alloc (.cells #[.int .i64 y.f0, .int .i64 y.f1, .int .u64 y.f2, .string y.f3, .slice B4 y.f4.length d4, .slice B5 y.f5.length d5] 27)) := fun k h1 h2 => by
          have h3 := HO8.out k (by have := S2.out; omega)
          have h4 : k < w8.heap.size := (Array.getElem?_eq_some_iff.1 (h3.trans (Array.getElem?_eq_getElem h2))).1
          exact (same_alloc w8 _ 0 k (Nat.zero_le _) h4).trans h3
        have hbf := below_alloc HB8.out (.cells #[.int .i64 y.f0, .int .i64 y.f1, .int .u64 y.f2, .string y.f3, .slice B4 y.f4.length d4, .slice B5 y.f5.length d5] 27)
        have HBF := Aside0.mk hbf
        have HLF := Aside0.mk (HL5.out.moved hsm)
        have ROW := Aside0.mk (row_one (blk_new w8 (.cells #[.int .i64 y.f0, .int .i64 y.f1, .int .u64 y.f2, .string y.f3, .slice B4 y.f4.length d4, .slice B5 y.f5.length d5] 27)) (HLF.out.here hbf))
        have ZF := Aside0.mk (blk_alloc Z8.out (.cells #[.int .i64 y.f0, .int .i64 y.f1, .int .u64 y.f2, .string y.f3, .slice B4 y.f4.length d4, .slice B5 y.f5.length d5] 27))
        have EF := Aside0.mk (blk_alloc E8.out (.cells #[.int .i64 y.f0, .int .i64 y.f1, .int .u64 y.f2, .string y.f3, .slice B4 y.f4.length d4, .slice B5 y.f5.length d5] 27))
        have HSF := Aside0.mk (show w2.heap.size ≤ (w8.alloc (.cells #[.int .i64 y.f0, .int .i64 y.f1, .int .u64 y.f2, .string y.f3, .slice B4 y.f4.length d4, .slice B5 y.f5.length d5] 27)).heap.size by
          have h3 := blk_lt EF.out
          have := S2.out; have := HG2.out
          omega)
        clear hsm hbf
        go_roundg k2
        case measure => omega
        case rel => exact ⟨i + 1, [y], some ⟨w8.heap.size, 0, none⟩, 1, y, B4, d4, B5, d5, by simp, rfl, ⟨by have := HI.out; omega⟩, ⟨by simp⟩, ⟨fun z hz => by rw [List.mem_singleton.1 hz]; exact HG.out⟩, HM2, ROW, ZF, HLF, EF, HBF, HSF⟩
      · have HRX := Lib.hid (show R = (z27, m) by rw [← hM2]; exact if_neg hm)
        have HMM := Lib.hid hm
        clear hM2 hg hm
        go_wp2_with (first | (go_at_call 43; (with_reducible refine CA.out.mono ?_); rintro en w5 he; obtain ⟨rfl, hb5⟩ := endsC_err HMM.out he; have BX5 := Lib.hid (blk_below BX.out hb5); have BY5 := Lib.hid (blk_below BY.out hb5); have HB5 := Lib.hid (below_step HB.out hb5); clear he hb5))
        refine leaves_cons (f := 42) (args := #[.pointer (some ⟨g1, 0, none⟩), .pointer (some ⟨g2, 0, none⟩)]) (by simp) (by simp [go_sem]) ?_
        refine (catch_code g1 g2 NE12.out _ _ _ _ _ _ 0 m [] w5 BX5.out BY5.out).mono ?_
        rintro en u' w'' ⟨rfl, rfl, hz, he, hb⟩
        have hbw := hb w (Nat.le_of_eq HG1.out) (by have := HG1.out; have := HG2.out; omega) HB5.out
        refine ⟨_, results_row_cell rfl _ _ g1 g2 27 _ (0, 0) _ m rfl rfl hz hu27 rfl (by exact size27) (load_errno _ g2 m he), ?_⟩
        rw [HRX.out]
        exact ⟨none, 0, none, 0, rfl, rows_nil _ z27 rfl rfl, hbw⟩
end Go.Proofs.YtdghnfmhcnlppaaGreatDoor.Eval
