/- The frame of a row whose arguments are a pipe and an Env: what reads as data are rows that lie, with their sizes. -/
import Derived.Test.YtdghnfmhcnlppaaGreatDoorEvalK
import Derived.Test.YtdghnfmhcnlppaaGreatDoorFrame
import Derived.Test.YtdghnfmhcnlppaaGreatDoorMayRef
import Derived.SizedLaws
namespace Go.Proofs.YtdghnfmhcnlppaaGreatDoor.Eval
open Go.RowKit Go.Proofs.YtdghnfmhcnlppaaGreatDoor.Q Go.Proofs.YtdghnfmhcnlppaaGreatDoor.Real Go.Proofs.YtdghnfmhcnlppaaGreatDoor.RealPure Go.Proofs.YtdghnfmhcnlppaaGreatDoor.Values Go.Proofs.YtdghnfmhcnlppaaGreatDoor.Fns Go.Proofs.YtdghnfmhcnlppaaGreatDoorW.PrintWords Go.Proofs.YtdghnfmhcnlppaaGreatDoorW.PrintLast Go.Proofs.YtdghnfmhcnlppaaGreatDoorW.PrintMore
set_option linter.unusedSimpArgs false
set_option linter.unusedVariables false
theorem bytesS : Tryz.prog.bytesOf 9 = 16 := by kernel_rfl
theorem bytesA : Tryz.prog.bytesOf 57 = 72 := by kernel_rfl
theorem bytesC : Tryz.prog.bytesOf 50 = 40 := by kernel_rfl
theorem cellsA : Tryz.prog.cellsOf 57 = 5 := by kernel_rfl
theorem cellsC : Tryz.prog.cellsOf 50 = 2 := by kernel_rfl
theorem cellsX : Tryz.prog.cellsOf 34 = 7 := by kernel_rfl
theorem cellsE : Tryz.prog.cellsOf 30 = 7 := by kernel_rfl
section
variable {H : Type} {enc : TypeId × Value → H} {w : World} {sp : Nat → Bool} {held : Bool}
theorem sm_all {P : Program} {e : TypeId} : ∀ (l : List (DataW H)) (d : DataW H), d ∈ l → ∀ z ∈ d.weights P e, z ∈ DataW.weightsAll P e l
  | d0 :: l, d, hd, z, hz => by
    simp only [DataW.weightsAll, List.mem_append]
    rcases List.mem_cons.1 hd with rfl | hd
    · exact .inl hz
    · exact .inr (sm_all l d hd z hz)
  | [], d, hd, _, _ => by cases hd
theorem sm_field {P : Program} {t tj : TypeId} {fs : Array Field} {xs : List (DataW H × List MemPlace)} {j : Nat} (hu : P.underlying t = some (.struct fs)) (ht : (fs.toList.map (·.type))[j]? = some tj) (hj : j < xs.length)
    (h : ∀ z ∈ (DataW.agg (xs.map (·.1))).weights P t, z ≤ reachBytes) : ∀ z ∈ (xs[j]'hj).1.weights P tj, z ≤ reachBytes := fun z hz => h z (by
  simp only [DataW.weights, hu]
  exact DataW.weights_mem_each (j := j) ht (by rw [List.getElem?_map, List.getElem?_eq_getElem hj]; rfl) z hz)
theorem sm_elem {P : Program} {t e : TypeId} {es rs : List (DataW H × List MemPlace)} {i : Nat} (hu : P.underlying t = some (.slice e)) (hi : i < es.length)
    (h : ∀ z ∈ (DataW.slice (es.map (·.1)) (rs.map (·.1))).weights P t, z ≤ reachBytes) : ∀ z ∈ (es[i]'hi).1.weights P e, z ≤ reachBytes := fun z hz => h z (by
  simp only [DataW.weights, hu]
  simp only [List.mem_cons, List.mem_append]
  exact .inr (.inl (sm_all _ _ (List.mem_map.2 ⟨_, List.getElem_mem hi, rfl⟩) z hz)))
theorem sm_len {P : Program} {t e : TypeId} {es rs : List (DataW H × List MemPlace)} (hu : P.underlying t = some (.slice e))
    (h : ∀ z ∈ (DataW.slice (es.map (·.1)) (rs.map (·.1))).weights P t, z ≤ reachBytes) : es.length * P.bytesOf e ≤ reachBytes := by
  have h1 := h ((es.length + rs.length) * P.bytesOf e) (by simp [DataW.weights, hu])
  exact Nat.le_trans (Nat.mul_le_mul_right _ (Nat.le_add_right _ _)) h1
theorem sm_str {P : Program} {t : TypeId} {x : DataW H × List MemPlace} {s : ByteArray} (h : x = (.lit (.string s.data.toList), [])) (hs : ∀ z ∈ x.1.weights P t, z ≤ reachBytes) : s.size ≤ 140737488355328 := by
  rw [h] at hs
  have h1 := hs s.data.toList.length (by simp [DataW.weights])
  rw [Array.length_toList] at h1
  have e : s.data.size = s.size := rfl
  unfold reachBytes at h1
  omega
theorem textsS {fuel : Nat} {cs : List Value} {x : DataW H × List MemPlace} (h : DataW.trod enc Tryz.prog w 0 sp held fuel 25 cs = some x) (hs : ∀ z ∈ x.1.weights Tryz.prog 25, z ≤ reachBytes) :
    ∃ A l c, cs = [.slice A l.length c] ∧ l.length ≤ c ∧ Kd.C Kd.string w A l.length l ∧ l.length ≤ 8796093022208 ∧ ∀ s ∈ l, s.size ≤ 140737488355328 := by
  rcases DataW.trod_slice Tryz.underlying25 h with ⟨rfl, _⟩ | ⟨a, len, cap, elems, rest, n, rfl, rfl, hx, _, hlc, hcm, hel, hcells, _, _⟩
  · exact ⟨none, [], 0, rfl, Nat.le_refl _, Kd.C_nil _ _, Nat.zero_le _, fun s hs => by cases hs⟩
  · rw [cells9] at hcells
    rw [hx] at hs
    have hl := sm_len Tryz.underlying25 hs
    rw [bytesS] at hl
    obtain ⟨xs, hxl, hC, hQ⟩ := C_read (d := Kd.string) (Q := fun s => s.size ≤ 140737488355328) (w := w) (a := a) (n := len) (sz := 1) rfl (Nat.le_trans hlc hcm) (fun i hi => by
      have h1 := hcells i hi
      rw [List.getElem?_eq_getElem (by omega)] at h1
      obtain ⟨c1, hc1, ht1⟩ := Option.bind_eq_some_iff.1 h1
      obtain ⟨s, rfl, hx1, _⟩ := DataW.trod_string Tryz.underlying9 ht1
      exact ⟨_, s, hc1, rfl, sm_str hx1 (sm_elem Tryz.underlying25 (by omega) hs)⟩)
    subst hxl
    exact ⟨some a, xs, cap, rfl, hlc, hC, by unfold reachBytes at hl; omega, hQ⟩
set_option maxRecDepth 100000 in
theorem argS (fuel : Nat) (cs : List Value) (x : DataW H × List MemPlace) (h : DataW.trod enc Tryz.prog w 0 sp held fuel 57 cs = some x) (hs : ∀ z ∈ x.1.weights Tryz.prog 57, z ≤ reachBytes) :
    ∃ v : Ag, kA.K w v cs ∧ (v.f2.length ≤ 8796093022208 ∧ v.f1.size ≤ 140737488355328 ∧ ∀ s ∈ v.f2, s.size ≤ 140737488355328) := by
  obtain ⟨xs, m, hm, hx, hl, hxl, hf⟩ := DataW.trod_struct Tryz.underlying57 h
  rw [cellsA] at hl
  obtain ⟨c0, c1, c2, c3, c4, rfl⟩ : ∃ c0 c1 c2 c3 c4, cs = [c0, c1, c2, c3, c4] := by
    match cs, hl with
    | [c0, c1, c2, c3, c4], _ => exact ⟨_, _, _, _, _, rfl⟩
  have hx5 : xs.length = 5 := hxl
  have f0 := hf 0 _ rfl
  have f1 := hf 1 _ rfl
  have f2 := hf 2 _ rfl
  have f3 := hf 3 _ rfl
  have f4 := hf 4 _ rfl
  rw [List.getElem?_eq_getElem (by omega)] at f0 f1 f2 f3 f4
  obtain ⟨k0, e0, _, w0⟩ := DataW.trod_int Tryz.underlying3 f0
  obtain ⟨s1, e1, x1, w1⟩ := DataW.trod_string Tryz.underlying9 f1
  rw [hx] at hs
  obtain ⟨A2, l2, p2, e2, h2, r2, b2, z2⟩ := textsS f2 (sm_field Tryz.underlying57 (j := 2) rfl (by omega) hs)
  obtain ⟨k3, e3, _, w3⟩ := DataW.trod_int Tryz.underlying3 f3
  obtain ⟨s4, e4, _, w4⟩ := DataW.trod_string Tryz.underlying9 f4
  have g0 : c0 = .int .i64 k0 := by have q : [c0] = [Value.int .i64 k0] := e0; injection q
  have g1 : c1 = .string s1 := by have q : [c1] = [Value.string s1] := e1; injection q
  have g2 : c2 = .slice A2 l2.length p2 := by have q : [c2] = [Value.slice A2 l2.length p2] := e2; injection q
  have g3 : c3 = .int .i64 k3 := by have q : [c3] = [Value.int .i64 k3] := e3; injection q
  have g4 : c4 = .string s4 := by have q : [c4] = [Value.string s4] := e4; injection q
  subst g0 g1 g2 g3 g4
  exact ⟨⟨k0, s1, l2, k3, s4⟩, k57_mk w ⟨k0, s1, l2, k3, s4⟩ h2 r2, b2, sm_str x1 (sm_field Tryz.underlying57 (j := 1) rfl (by omega) hs), z2⟩
set_option maxRecDepth 100000 in
theorem cmdS (fuel : Nat) (cs : List Value) (x : DataW H × List MemPlace) (h : DataW.trod enc Tryz.prog w 0 sp held fuel 50 cs = some x) (hs : ∀ z ∈ x.1.weights Tryz.prog 50, z ≤ reachBytes) :
    ∃ v : Cm, kC.K w v cs ∧ Pipe.sizedM v := by
  obtain ⟨xs, m, hm, hx, hl, hxl, hf⟩ := DataW.trod_struct Tryz.underlying50 h
  rw [cellsC] at hl
  obtain ⟨c0, c1, rfl⟩ : ∃ c0 c1, cs = [c0, c1] := by
    match cs, hl with
    | [c0, c1], _ => exact ⟨_, _, rfl⟩
  have hx2 : xs.length = 2 := hxl
  have f0 := hf 0 _ rfl
  have f1 := hf 1 _ rfl
  rw [List.getElem?_eq_getElem (by omega)] at f0 f1
  obtain ⟨s0, e0, _, w0⟩ := DataW.trod_string Tryz.underlying9 f0
  rw [hx] at hs
  have hs1 : ∀ z ∈ (xs[1]'(by omega)).1.weights Tryz.prog 48, z ≤ reachBytes := sm_field Tryz.underlying50 (j := 1) rfl (by omega) hs
  have g0 : c0 = .string s0 := by have q : [c0] = [Value.string s0] := e0; injection q
  rcases DataW.trod_slice Tryz.underlying48 f1 with ⟨e4, _⟩ | ⟨a, len, cap, elems, rest, n', rfl, e4, hx1, _, hlc, hcm, hel, hcells, _, _⟩
  · have g1 : c1 = .slice none 0 0 := by have q : [c1] = [Value.slice none 0 0] := e4; injection q
    subst g0 g1
    exact ⟨⟨s0, []⟩, k50_mk w ⟨s0, []⟩ (c1 := 0) (Nat.le_refl _) (Kd.C_nil _ _), ⟨Nat.zero_le _, fun a ha => by cases ha⟩, fun a ha => by cases ha⟩
  · rw [cellsA] at hcells
    rw [hx1] at hs1
    have hl1 := sm_len Tryz.underlying48 hs1
    rw [bytesA] at hl1
    obtain ⟨ys, hyl, hC, hQ⟩ := C_read (d := kA) (Q := fun v => v.f2.length ≤ 8796093022208 ∧ v.f1.size ≤ 140737488355328 ∧ ∀ s ∈ v.f2, s.size ≤ 140737488355328) (w := w) (a := a) (n := len) (sz := 5) rfl (Nat.le_trans hlc hcm) (fun i hi => by
      have h1 := hcells i hi
      rw [List.getElem?_eq_getElem (by omega)] at h1
      obtain ⟨cc, hcc, ht1⟩ := Option.bind_eq_some_iff.1 h1
      obtain ⟨v, hk, hb⟩ := argS n' cc _ ht1 (sm_elem Tryz.underlying48 (by omega) hs1)
      exact ⟨_, v, hcc, hk, hb⟩)
    subst hyl
    have g1 : c1 = .slice (some a) ys.length cap := by have q : [c1] = [Value.slice (some a) ys.length cap] := e4; injection q
    subst g0 g1
    exact ⟨⟨s0, ys⟩, k50_mk w ⟨s0, ys⟩ hlc hC, ⟨(by unfold reachBytes at hl1; show ys.length ≤ _; omega), fun a ha => (hQ a ha).1⟩, fun a ha => (hQ a ha).2⟩
/-- A row of commands that comes in. -/
theorem open_cmds_sized {v : Value} {d : DataW H} {ps : List MemPlace} (hv : v.cells.toList = [v]) (h : DataW.Trod enc Tryz.prog w 0 sp held 22 v d ps) (hs : ∀ z ∈ d.weights Tryz.prog 22, z ≤ reachBytes) :
    ∃ (A : Option Addr) (l : List Cm) (c : Nat), v = .slice A l.length c ∧ l.length ≤ c ∧ Kd.C kC w A l.length l ∧ l.length ≤ 8796093022208 ∧ ∀ x ∈ l, Pipe.sizedM x := by
  obtain ⟨fuel, h⟩ := h
  rw [hv] at h
  rcases DataW.trod_slice Tryz.underlying22 h with ⟨e4, _⟩ | ⟨a, len, cap, elems, rest, n', rfl, e4, hx, _, hlc, hcm, hel, hcells, _, _⟩
  · exact ⟨none, [], 0, by injection e4, Nat.le_refl _, Kd.C_nil _ _, Nat.zero_le _, fun x hx => by cases hx⟩
  · rw [cellsC] at hcells
    have hx' : d = .slice (elems.map (·.1)) (rest.map (·.1)) := congrArg Prod.fst hx
    rw [hx'] at hs
    have hl := sm_len Tryz.underlying22 hs
    rw [bytesC] at hl
    obtain ⟨ys, hyl, hC, hQ⟩ := C_read (d := kC) (Q := Pipe.sizedM) (w := w) (a := a) (n := len) (sz := 2) rfl (Nat.le_trans hlc hcm) (fun i hi => by
      have h1 := hcells i hi
      rw [List.getElem?_eq_getElem (by omega)] at h1
      obtain ⟨cc, hcc, ht1⟩ := Option.bind_eq_some_iff.1 h1
      obtain ⟨v, hk, hb⟩ := cmdS n' cc _ ht1 (sm_elem Tryz.underlying22 (by omega) hs)
      exact ⟨_, v, hcc, hk, hb⟩)
    subst hyl
    exact ⟨some a, ys, cap, by injection e4, hlc, hC, (by unfold reachBytes at hl; omega), hQ⟩
set_option maxRecDepth 100000 in
theorem varS (fuel : Nat) (cs : List Value) (x : DataW H × List MemPlace) (h : DataW.trod enc Tryz.prog w 0 sp held fuel 34 cs = some x) (hs : ∀ z ∈ x.1.weights Tryz.prog 34, z ≤ reachBytes) :
    ∃ v : Vr, kX.K w v cs ∧ (v.f0.size ≤ 140737488355328 ∧ ∀ d, rngD d v.f1) := by
  obtain ⟨xs, m, hm, hx, hl, hxl, hf⟩ := DataW.trod_struct Tryz.underlying34 h
  rw [cellsX] at hl
  obtain ⟨c0, c1, c2, c3, c4, c5, c6, rfl⟩ : ∃ c0 c1 c2 c3 c4 c5 c6, cs = [c0, c1, c2, c3, c4, c5, c6] := by
    match cs, hl with
    | [c0, c1, c2, c3, c4, c5, c6], _ => exact ⟨_, _, _, _, _, _, _, rfl⟩
  have hx2 : xs.length = 2 := hxl
  have f0 := hf 0 _ rfl
  have f1 := hf 1 _ rfl
  rw [List.getElem?_eq_getElem (by omega)] at f0 f1
  obtain ⟨s0, e0, x0, w0⟩ := DataW.trod_string Tryz.underlying9 f0
  rw [hx] at hs
  have f1' : DataW.trod enc Tryz.prog w 0 sp held m 27 [c1, c2, c3, c4, c5, c6] = some (xs[1]'(by omega)) := f1
  obtain ⟨v, hk, hw⟩ := read_value m _ _ f1'
  obtain ⟨A4, d4, A5, d5, e, l4, g4, l5, g5⟩ := k27_open hk
  have g0 : c0 = .string s0 := by have q : [c0] = [Value.string s0] := e0; injection q
  subst g0
  rw [e]
  exact ⟨⟨s0, v⟩, K_var w ⟨s0, v⟩ ⟨g4, l4, g5, l5⟩, sm_str x0 (sm_field Tryz.underlying34 (j := 0) rfl (by omega) hs), fun d => rng_of_wide d v (hw d)⟩
set_option maxRecDepth 100000 in
/-- An Env that comes in. -/
theorem open_env_sized {r : Reach} {b0 : Nat} {v : Value} {d : DataW H} {ps : List MemPlace} (hval : Value.okWide Tryz.prog w r b0 30 v) (h : DataW.Trod enc Tryz.prog w 0 sp held 30 v d ps) (hs : ∀ z ∈ d.weights Tryz.prog 30, z ≤ reachBytes) :
    ∃ (e : En) (A4 : Option Addr) (c4 : Nat) (A5 : Option Addr) (c5 : Nat) (A6 : Option Addr) (c6 : Nat), v = envV e A4 c4 A5 c5 A6 c6 ∧ RowsE w e A4 c4 A5 c5 A6 c6 ∧ goodE e ∧ ∀ x ∈ e.f1, x.f0.size ≤ 140737488355328 := by
  obtain ⟨fuel, h⟩ := h
  unfold Value.okWide at hval
  rw [Tryz.underlying30] at hval
  obtain ⟨cs, rfl, _, _⟩ := hval
  have h' : DataW.trod enc Tryz.prog w 0 sp held fuel 30 cs.toList = some (d, ps) := h
  obtain ⟨l, hl0⟩ : ∃ l, cs.toList = l := ⟨_, rfl⟩
  rw [hl0] at h'
  obtain ⟨xs, m, hm, hx, hl, hxl, hf⟩ := DataW.trod_struct Tryz.underlying30 h'
  rw [cellsE] at hl
  obtain ⟨c0, c1, c2, c3, c4, c5, c6, rfl⟩ : ∃ c0 c1 c2 c3 c4 c5 c6, l = [c0, c1, c2, c3, c4, c5, c6] := by
    match l, hl with
    | [c0, c1, c2, c3, c4, c5, c6], _ => exact ⟨_, _, _, _, _, _, _, rfl⟩
  have hx2 : xs.length = 2 := hxl
  have f0 := hf 0 _ rfl
  have f1 := hf 1 _ rfl
  rw [List.getElem?_eq_getElem (by omega)] at f0 f1
  have hx' : d = .agg (xs.map (·.1)) := congrArg Prod.fst hx
  rw [hx'] at hs
  have f0' : DataW.trod enc Tryz.prog w 0 sp held m 27 [c0, c1, c2, c3, c4, c5] = some (xs[0]'(by omega)) := f0
  have f1' : DataW.trod enc Tryz.prog w 0 sp held m 28 [c6] = some (xs[1]'(by omega)) := f1
  have hs1 : ∀ z ∈ (xs[1]'(by omega)).1.weights Tryz.prog 28, z ≤ reachBytes := sm_field Tryz.underlying30 (j := 1) rfl (by omega) hs
  obtain ⟨v, hk, hw⟩ := read_value m _ _ f0'
  obtain ⟨A4, d4, A5, d5, e, l4, g4, l5, g5⟩ := k27_open hk
  obtain ⟨A6, ys, d6, g6, h6, r6, q6⟩ : ∃ (A : Option Addr) (l : List Vr) (c : Nat), c6 = .slice A l.length c ∧ l.length ≤ c ∧ Kd.C kX w A l.length l ∧ ∀ x ∈ l, x.f0.size ≤ 140737488355328 ∧ ∀ d, rngD d x.f1 := by
    rcases DataW.trod_slice Tryz.underlying28 f1' with ⟨e4, _⟩ | ⟨a, len, cap, elems, rest, n', hm', e4, hx1, _, hlc, hcm, hel, hcells, _, _⟩
    · exact ⟨none, [], 0, by injection e4, Nat.le_refl _, Kd.C_nil _ _, fun x hx => by cases hx⟩
    · rw [cellsX] at hcells
      rw [hx1] at hs1
      obtain ⟨ys, hyl, hC, hQ⟩ := C_read (d := kX) (Q := fun x => x.f0.size ≤ 140737488355328 ∧ ∀ d, rngD d x.f1) (w := w) (a := a) (n := len) (sz := 7) rfl (Nat.le_trans hlc hcm) (fun i hi => by
        have h1 := hcells i hi
        rw [List.getElem?_eq_getElem (by omega)] at h1
        obtain ⟨cc, hcc, ht1⟩ := Option.bind_eq_some_iff.1 h1
        obtain ⟨v, hk, hb⟩ := varS n' cc _ ht1 (sm_elem Tryz.underlying28 (by omega) hs1)
        exact ⟨_, v, hcc, hk, hb⟩)
      subst hyl
      exact ⟨some a, ys, cap, by injection e4, hlc, hC, hQ⟩
  refine ⟨⟨v, ys⟩, A4, d4, A5, d5, A6, d6, ?_, ⟨⟨g4, l4, g5, l5⟩, r6, h6⟩, ⟨fun d => rng_of_wide d v (hw d), fun x hx => (q6 x hx).2⟩, fun x hx => (q6 x hx).1⟩
  have e' : cs = #[.int .i64 v.f0, .int .i64 v.f1, .int .u64 v.f2, .string v.f3, .slice A4 v.f4.length d4, .slice A5 v.f5.length d5, .slice A6 ys.length d6] := by
    apply Array.ext'
    rw [hl0, g6]
    simp only [List.cons.injEq, and_true] at e
    obtain ⟨q0, q1, q2, q3, q4, q5⟩ := e
    subst q0 q1 q2 q3 q4 q5
    rfl
  rw [e']
end
end Go.Proofs.YtdghnfmhcnlppaaGreatDoor.Eval
