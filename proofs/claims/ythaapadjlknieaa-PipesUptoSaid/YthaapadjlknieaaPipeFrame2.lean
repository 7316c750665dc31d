/- The frame of a row whose arguments are words, commands: what reads as data are rows that lie, no longer than their bulk, their texts no longer either. -/
import Derived.Test.YthaapadjlknieaaPipe
import Derived.Test.YthaapadjlknieaaRows
import Derived.ChangeArms
import Derived.DataElems
import Derived.Carry
namespace Go.Proofs.Ythaapadjlknieaa.Pipe
open Go.RowKit Go.Proofs.Ythaapadjlknieaa.Q Go.Proofs.YthaapadjlknieaaW.PrintWords Go.Proofs.YthaapadjlknieaaW.PrintLast Go.Proofs.YthaapadjlknieaaW.PrintMore

theorem bulk_one {H : Type} (d : DataW H) : 1 ≤ Rows.uptoBulk d := by
  cases d with
  | lit l => cases l <;> simp [Rows.uptoBulk]
  | nil => simp [Rows.uptoBulk]
  | ptr d => simp [Rows.uptoBulk]
  | slice elems spare => simp [Rows.uptoBulk]
  | agg parts => simp [Rows.uptoBulk]
  | iface t d => simp [Rows.uptoBulk]
  | map entries => simp [Rows.uptoBulk]
  | held h => simp [Rows.uptoBulk]
theorem bulk_part {H : Type} {d : DataW H} {l : List (DataW H)} (h : d ∈ l) : Rows.uptoBulk d ≤ Rows.uptoBulkAll l := by
  induction l with
  | nil => cases h
  | cons x r ih =>
    simp only [Rows.uptoBulkAll]
    cases List.mem_cons.1 h with
    | inl e => subst e; omega
    | inr e => have := ih e; omega
theorem bulk_length {H : Type} (l : List (DataW H)) : l.length ≤ Rows.uptoBulkAll l := by
  induction l with
  | nil => simp [Rows.uptoBulkAll]
  | cons x r ih => have := bulk_one x; simp only [Rows.uptoBulkAll, List.length_cons]; omega
theorem bulk_small {H : Type} {l : List (DataW H)} (hk : Rows.uptoSmall H l = true) : Rows.uptoBulkAll l ≤ 1048576 := of_decide_eq_true hk
theorem list_of {α : Type} (P : Nat → α → Prop) : ∀ n, (∀ i, i < n → ∃ v, P i v) → ∃ l : List α, l.length = n ∧ ∀ i v, l[i]? = some v → P i v
  | 0, _ => ⟨[], rfl, fun i v h => by simp at h⟩
  | n + 1, h => by
    obtain ⟨l, hl, hp⟩ := list_of P n (fun i hi => h i (by omega))
    obtain ⟨v, hv⟩ := h n (by omega)
    refine ⟨l ++ [v], by simp [hl], fun i u hu => ?_⟩
    by_cases c : i < n
    · rw [List.getElem?_append_left (by omega)] at hu
      exact hp i u hu
    · have hi : i < (l ++ [v]).length := (List.getElem?_eq_some_iff.1 hu).1
      rw [List.length_append, List.length_singleton] at hi
      have hin : i = n := by omega
      subst hin
      rw [List.getElem?_append_right (by omega), hl, Nat.sub_self] at hu
      obtain rfl : v = u := Option.some.inj hu
      exact hv
theorem C_read {α : Type} {d : Kd α} {Q : α → Prop} {w : World} {a : Addr} {n sz : Nat} (hsz : d.sz = sz) (hn : n ≤ maxLen)
    (h : ∀ i, i < n → ∃ cs v, w.cells? 0 (a.add (i * sz)) sz = some cs ∧ d.K w v cs ∧ Q v) :
    ∃ xs : List α, xs.length = n ∧ Kd.C d w (some a) n xs ∧ ∀ v ∈ xs, Q v := by
  subst hsz
  obtain ⟨xs, hl, hp⟩ := list_of (fun i v => ∃ cs, w.cells? 0 (a.add (i * d.sz)) d.sz = some cs ∧ d.K w v cs ∧ Q v) n (fun i hi => by
    obtain ⟨cs, v, h1, h2, h3⟩ := h i hi
    exact ⟨v, cs, h1, h2, h3⟩)
  refine ⟨xs, hl, ⟨hl, hn, fun _ => ⟨a, rfl, fun j p hj => ?_⟩⟩, fun v hv => ?_⟩
  · obtain ⟨cs, h1, h2, _⟩ := hp j p hj
    obtain ⟨_, hlen, hc⟩ := World.cells?_some h1
    refine ⟨cs, hlen, h2, fun i u hu => ?_⟩
    have hi := (List.getElem?_eq_some_iff.1 hu).1
    rw [← Addr.add_add, hc i (by omega)]
    exact hu
  · obtain ⟨j, hj, rfl⟩ := List.getElem_of_mem hv
    obtain ⟨cs, _, _, h3⟩ := hp j _ (List.getElem?_eq_getElem hj)
    exact h3
theorem cells9 : Try.prog.cellsOf 9 = 1 := by kernel_rfl
theorem cellsW : Try.prog.cellsOf 45 = 4 := by kernel_rfl
theorem cellsA : Try.prog.cellsOf 41 = 5 := by kernel_rfl
theorem cellsC : Try.prog.cellsOf 38 = 2 := by kernel_rfl
section
variable {H : Type} {enc : TypeId × Value → H} {w : World} {sp : Nat → Bool} {held : Bool}
theorem bulk_field {xs : List (DataW H × List MemPlace)} {i : Nat} (hi : i < xs.length) {B : Nat} (h : Rows.uptoBulk (.agg (xs.map (·.1))) ≤ B) : Rows.uptoBulk (xs[i]'hi).1 ≤ B := by
  have h1 := bulk_part (d := (xs[i]'hi).1) (l := xs.map (·.1)) (List.mem_map.2 ⟨_, List.getElem_mem hi, rfl⟩)
  simp only [Rows.uptoBulk] at h
  omega
theorem bulk_elem {es rs : List (DataW H × List MemPlace)} {i : Nat} (hi : i < es.length) {B : Nat} (h : Rows.uptoBulk (.slice (es.map (·.1)) (rs.map (·.1))) ≤ B) : Rows.uptoBulk (es[i]'hi).1 ≤ B := by
  have h1 := bulk_part (d := (es[i]'hi).1) (l := es.map (·.1)) (List.mem_map.2 ⟨_, List.getElem_mem hi, rfl⟩)
  simp only [Rows.uptoBulk] at h
  omega
theorem bulk_len {es rs : List (DataW H × List MemPlace)} {B : Nat} (h : Rows.uptoBulk (.slice (es.map (·.1)) (rs.map (·.1))) ≤ B) : es.length + 1 ≤ B := by
  have h1 := bulk_length (es.map (·.1))
  rw [List.length_map] at h1
  simp only [Rows.uptoBulk] at h
  omega
theorem bulk_str {x : DataW H × List MemPlace} {s : ByteArray} {B : Nat} (h : x = (.lit (.string s.data.toList), [])) (hB : Rows.uptoBulk x.1 ≤ B) : s.size ≤ B := by
  rw [h] at hB
  simp only [Rows.uptoBulk] at hB
  rw [Array.length_toList] at hB
  have e : s.data.size = s.size := rfl
  omega
theorem read_texts {fuel : Nat} {cs : List Value} {x : DataW H × List MemPlace} (h : DataW.trod enc Try.prog w 0 sp held fuel 39 cs = some x) {B : Nat} (hB : Rows.uptoBulk x.1 ≤ B) :
    ∃ A l c, cs = [.slice A l.length c] ∧ l.length ≤ c ∧ Kd.C Kd.string w A l.length l ∧ l.length ≤ B ∧ ∀ s ∈ l, s.size ≤ B := by
  rcases DataW.trod_slice Try.underlying39 h with ⟨rfl, _⟩ | ⟨a, len, cap, elems, rest, n, rfl, rfl, hx, _, hlc, hcm, hel, hcells, _, _⟩
  · exact ⟨none, [], 0, rfl, Nat.le_refl _, Kd.C_nil _ _, Nat.zero_le _, fun s hs => by cases hs⟩
  · rw [cells9] at hcells
    rw [hx] at hB
    obtain ⟨xs, hl, hC, hQ⟩ := C_read (d := Kd.string) (Q := fun s => s.size ≤ B) (w := w) (a := a) (n := len) (sz := 1) rfl (Nat.le_trans hlc hcm) (fun i hi => by
      have h1 := hcells i hi
      rw [List.getElem?_eq_getElem (by omega)] at h1
      obtain ⟨c1, hc1, ht1⟩ := Option.bind_eq_some_iff.1 h1
      obtain ⟨s, rfl, hx1, _⟩ := DataW.trod_string Try.underlying9 ht1
      exact ⟨_, s, hc1, rfl, bulk_str hx1 (bulk_elem (by omega) hB)⟩)
    subst hl
    exact ⟨some a, xs, cap, rfl, hlc, hC, by have := bulk_len hB; omega, hQ⟩
set_option maxRecDepth 100000 in
theorem read_word (fuel : Nat) (cs : List Value) (x : DataW H × List MemPlace) (h : DataW.trod enc Try.prog w 0 sp held fuel 45 cs = some x) {B : Nat} (hB : Rows.uptoBulk x.1 ≤ B) : ∃ v : Wd, kW.K w v cs ∧ (v.f2.length ≤ B ∧ v.f1.size ≤ B ∧ ∀ s ∈ v.f2, s.size ≤ B) := by
  obtain ⟨xs, m, hm, hx, hl, hxl, hf⟩ := DataW.trod_struct Try.underlying45 h
  rw [cellsW] at hl
  obtain ⟨c0, c1, c2, c3, rfl⟩ : ∃ c0 c1 c2 c3, cs = [c0, c1, c2, c3] := by
    match cs, hl with
    | [c0, c1, c2, c3], _ => exact ⟨_, _, _, _, rfl⟩
  have hx4 : xs.length = 4 := hxl
  have f0 := hf 0 _ rfl
  have f1 := hf 1 _ rfl
  have f2 := hf 2 _ rfl
  have f3 := hf 3 _ rfl
  rw [List.getElem?_eq_getElem (by omega)] at f0 f1 f2 f3
  obtain ⟨k0, e0, _, w0⟩ := DataW.trod_int Try.underlying3 f0
  obtain ⟨s1, e1, x1, w1⟩ := DataW.trod_string Try.underlying9 f1
  rw [hx] at hB
  obtain ⟨A2, l2, p2, e2, h2, r2, b2, z2⟩ := read_texts f2 (bulk_field (i := 2) (by omega) hB)
  obtain ⟨k3, e3, _, w3⟩ := DataW.trod_int Try.underlying3 f3
  have g0 : c0 = .int .i64 k0 := by have q : [c0] = [Value.int .i64 k0] := e0; injection q
  have g1 : c1 = .string s1 := by have q : [c1] = [Value.string s1] := e1; injection q
  have g2 : c2 = .slice A2 l2.length p2 := by have q : [c2] = [Value.slice A2 l2.length p2] := e2; injection q
  have g3 : c3 = .int .i64 k3 := by have q : [c3] = [Value.int .i64 k3] := e3; injection q
  subst g0 g1 g2 g3
  exact ⟨⟨k0, s1, l2, k3⟩, k45_mk w ⟨k0, s1, l2, k3⟩ h2 r2, b2, bulk_str x1 (bulk_field (i := 1) (by omega) hB), z2⟩
/-- A row of words that comes in. -/
theorem open_words {v : Value} {d : DataW H} {ps : List MemPlace} (hv : v.cells.toList = [v]) (h : DataW.Trod enc Try.prog w 0 sp held 22 v d ps) {B : Nat} (hB : Rows.uptoBulk d ≤ B) :
    ∃ (A : Option Addr) (l : List Wd) (c : Nat), v = .slice A l.length c ∧ l.length ≤ c ∧ Kd.C kW w A l.length l ∧ l.length + 1 ≤ max B 1 ∧ ∀ x ∈ l, x.f2.length ≤ B ∧ x.f1.size ≤ B ∧ ∀ s ∈ x.f2, s.size ≤ B := by
  obtain ⟨fuel, h⟩ := h
  rw [hv] at h
  rcases DataW.trod_slice Try.underlying22 h with ⟨e4, _⟩ | ⟨a, len, cap, elems, rest, n', rfl, e4, hx, _, hlc, hcm, hel, hcells, _, _⟩
  · exact ⟨none, [], 0, by injection e4, Nat.le_refl _, Kd.C_nil _ _, (by show 0 + 1 ≤ _; omega), fun x hx => by cases hx⟩
  · rw [cellsW] at hcells
    have hx' : d = .slice (elems.map (·.1)) (rest.map (·.1)) := congrArg Prod.fst hx
    rw [hx'] at hB
    obtain ⟨ys, hyl, hC, hQ⟩ := C_read (d := kW) (Q := fun x => x.f2.length ≤ B ∧ x.f1.size ≤ B ∧ ∀ s ∈ x.f2, s.size ≤ B) (w := w) (a := a) (n := len) (sz := 4) rfl (Nat.le_trans hlc hcm) (fun i hi => by
      have h1 := hcells i hi
      rw [List.getElem?_eq_getElem (by omega)] at h1
      obtain ⟨cc, hcc, ht1⟩ := Option.bind_eq_some_iff.1 h1
      obtain ⟨v, hk, hb⟩ := read_word n' cc _ ht1 (bulk_elem (by omega) hB)
      exact ⟨_, v, hcc, hk, hb⟩)
    subst hyl
    exact ⟨some a, ys, cap, by injection e4, hlc, hC, (by have := bulk_len hB; omega), hQ⟩
set_option maxRecDepth 100000 in
theorem read_arg (fuel : Nat) (cs : List Value) (x : DataW H × List MemPlace) (h : DataW.trod enc Try.prog w 0 sp held fuel 41 cs = some x) {B : Nat} (hB : Rows.uptoBulk x.1 ≤ B) : ∃ v : Ag, kA.K w v cs ∧ (v.f2.length ≤ B ∧ v.f1.size ≤ B ∧ ∀ s ∈ v.f2, s.size ≤ B) := by
  obtain ⟨xs, m, hm, hx, hl, hxl, hf⟩ := DataW.trod_struct Try.underlying41 h
  rw [cellsA] at hl
  obtain ⟨c0, c1, c2, c3, c4, rfl⟩ : ∃ c0 c1 c2 c3 c4, cs = [c0, c1, c2, c3, c4] := by
    match cs, hl with
    | [c0, c1, c2, c3, c4], _ => exact ⟨_, _, _, _, _, rfl⟩
  have hx5 : xs.length = 5 := hxl
  have f0 := hf 0 _ rfl
  have f1 := hf 1 _ rfl
  have f2 := hf 2 _ rfl
  have f3 := hf 3 _ rfl
  have f4 := hf 4 _ rfl
  rw [List.getElem?_eq_getElem (by omega)] at f0 f1 f2 f3 f4
  obtain ⟨k0, e0, _, w0⟩ := DataW.trod_int Try.underlying3 f0
  obtain ⟨s1, e1, x1, w1⟩ := DataW.trod_string Try.underlying9 f1
  rw [hx] at hB
  obtain ⟨A2, l2, p2, e2, h2, r2, b2, z2⟩ := read_texts f2 (bulk_field (i := 2) (by omega) hB)
  obtain ⟨k3, e3, _, w3⟩ := DataW.trod_int Try.underlying3 f3
  obtain ⟨s4, e4, _, w4⟩ := DataW.trod_string Try.underlying9 f4
  have g0 : c0 = .int .i64 k0 := by have q : [c0] = [Value.int .i64 k0] := e0; injection q
  have g1 : c1 = .string s1 := by have q : [c1] = [Value.string s1] := e1; injection q
  have g2 : c2 = .slice A2 l2.length p2 := by have q : [c2] = [Value.slice A2 l2.length p2] := e2; injection q
  have g3 : c3 = .int .i64 k3 := by have q : [c3] = [Value.int .i64 k3] := e3; injection q
  have g4 : c4 = .string s4 := by have q : [c4] = [Value.string s4] := e4; injection q
  subst g0 g1 g2 g3 g4
  exact ⟨⟨k0, s1, l2, k3, s4⟩, k41_mk w ⟨k0, s1, l2, k3, s4⟩ h2 r2, b2, bulk_str x1 (bulk_field (i := 1) (by omega) hB), z2⟩
set_option maxRecDepth 100000 in
theorem read_cmd (fuel : Nat) (cs : List Value) (x : DataW H × List MemPlace) (h : DataW.trod enc Try.prog w 0 sp held fuel 38 cs = some x) {B : Nat} (hB : Rows.uptoBulk x.1 ≤ B) : ∃ v : Cm, kC.K w v cs ∧ (v.f1.length ≤ B ∧ ∀ a ∈ v.f1, a.f2.length ≤ B ∧ a.f1.size ≤ B ∧ ∀ s ∈ a.f2, s.size ≤ B) := by
  obtain ⟨xs, m, hm, hx, hl, hxl, hf⟩ := DataW.trod_struct Try.underlying38 h
  rw [cellsC] at hl
  obtain ⟨c0, c1, rfl⟩ : ∃ c0 c1, cs = [c0, c1] := by
    match cs, hl with
    | [c0, c1], _ => exact ⟨_, _, rfl⟩
  have hx2 : xs.length = 2 := hxl
  have f0 := hf 0 _ rfl
  have f1 := hf 1 _ rfl
  rw [List.getElem?_eq_getElem (by omega)] at f0 f1
  obtain ⟨s0, e0, _, w0⟩ := DataW.trod_string Try.underlying9 f0
  rw [hx] at hB
  have hB1 := bulk_field (i := 1) (by omega) hB
  have g0 : c0 = .string s0 := by have q : [c0] = [Value.string s0] := e0; injection q
  rcases DataW.trod_slice Try.underlying36 f1 with ⟨e4, _⟩ | ⟨a, len, cap, elems, rest, n', rfl, e4, hx1, _, hlc, hcm, hel, hcells, _, _⟩
  · have g1 : c1 = .slice none 0 0 := by have q : [c1] = [Value.slice none 0 0] := e4; injection q
    subst g0 g1
    exact ⟨⟨s0, []⟩, k38_mk w ⟨s0, []⟩ (c1 := 0) (Nat.le_refl _) (Kd.C_nil _ _), Nat.zero_le _, fun a ha => by cases ha⟩
  · rw [cellsA] at hcells
    rw [hx1] at hB1
    obtain ⟨ys, hyl, hC, hQ⟩ := C_read (d := kA) (Q := fun v => v.f2.length ≤ B ∧ v.f1.size ≤ B ∧ ∀ s ∈ v.f2, s.size ≤ B) (w := w) (a := a) (n := len) (sz := 5) rfl (Nat.le_trans hlc hcm) (fun i hi => by
      have h1 := hcells i hi
      rw [List.getElem?_eq_getElem (by omega)] at h1
      obtain ⟨cc, hcc, ht1⟩ := Option.bind_eq_some_iff.1 h1
      obtain ⟨v, hk, hb⟩ := read_arg n' cc _ ht1 (bulk_elem (by omega) hB1)
      exact ⟨_, v, hcc, hk, hb⟩)
    subst hyl
    have g1 : c1 = .slice (some a) ys.length cap := by have q : [c1] = [Value.slice (some a) ys.length cap] := e4; injection q
    subst g0 g1
    exact ⟨⟨s0, ys⟩, k38_mk w ⟨s0, ys⟩ hlc hC, (by have hb := bulk_len (es := elems) (rs := rest) hB1; show ys.length ≤ B; omega), hQ⟩
/-- A row of commands that comes in. -/
theorem open_cmds {v : Value} {d : DataW H} {ps : List MemPlace} (hv : v.cells.toList = [v]) (h : DataW.Trod enc Try.prog w 0 sp held 23 v d ps) {B : Nat} (hB : Rows.uptoBulk d ≤ B) :
    ∃ (A : Option Addr) (l : List Cm) (c : Nat), v = .slice A l.length c ∧ l.length ≤ c ∧ Kd.C kC w A l.length l ∧ l.length ≤ B ∧ ∀ x ∈ l, x.f1.length ≤ B ∧ ∀ a ∈ x.f1, a.f2.length ≤ B ∧ a.f1.size ≤ B ∧ ∀ s ∈ a.f2, s.size ≤ B := by
  obtain ⟨fuel, h⟩ := h
  rw [hv] at h
  rcases DataW.trod_slice Try.underlying23 h with ⟨e4, _⟩ | ⟨a, len, cap, elems, rest, n', rfl, e4, hx, _, hlc, hcm, hel, hcells, _, _⟩
  · exact ⟨none, [], 0, by injection e4, Nat.le_refl _, Kd.C_nil _ _, Nat.zero_le _, fun x hx => by cases hx⟩
  · rw [cellsC] at hcells
    have hx' : d = .slice (elems.map (·.1)) (rest.map (·.1)) := congrArg Prod.fst hx
    rw [hx'] at hB
    obtain ⟨ys, hyl, hC, hQ⟩ := C_read (d := kC) (Q := fun v => v.f1.length ≤ B ∧ ∀ a ∈ v.f1, a.f2.length ≤ B ∧ a.f1.size ≤ B ∧ ∀ s ∈ a.f2, s.size ≤ B) (w := w) (a := a) (n := len) (sz := 2) rfl (Nat.le_trans hlc hcm) (fun i hi => by
      have h1 := hcells i hi
      rw [List.getElem?_eq_getElem (by omega)] at h1
      obtain ⟨cc, hcc, ht1⟩ := Option.bind_eq_some_iff.1 h1
      obtain ⟨v, hk, hb⟩ := read_cmd n' cc _ ht1 (bulk_elem (by omega) hB)
      exact ⟨_, v, hcc, hk, hb⟩)
    subst hyl
    exact ⟨some a, ys, cap, by injection e4, hlc, hC, by have := bulk_len hB; omega, hQ⟩
end
end Go.Proofs.Ythaapadjlknieaa.Pipe
