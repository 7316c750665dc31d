/- The frame of a row whose arguments are values: what reads as data is a tree whose rows lie. · Calls of functions in the form that the laws' own bodies want; what they answer of one and of two values. · Calls of index in regions that draw: the contract for an argument block at any place; the result's rows wherever its box lies; what index and len answer of a list, of a record. -/
import Derived.Test.YtepolmajebdphaaDoorValues
import Derived.ChangeArms
import Derived.DataElems
import Derived.Carry
import Derived.Test.YtepolmajebdphaaDoorAwake18
import Derived.Test.YtepolmajebdphaaDoorRefV
namespace Go.Proofs.YtepolmajebdphaaDoor.Values
open Go.RowKit Go.Proofs.YtepolmajebdphaaDoor.Q Go.Proofs.YtepolmajebdphaaDoor.Real Go.Proofs.YtepolmajebdphaaDoor.RealPure Go.Proofs.YtepolmajebdphaaDoorW.PrintWords Go.Proofs.YtepolmajebdphaaDoorW.PrintLast Go.Proofs.YtepolmajebdphaaDoorW.PrintMore
set_option linter.unusedSimpArgs false
set_option linter.unusedVariables false

/-- A list out of what is there at each place. -/
theorem list_of {α : Type} (P : Nat → α → Prop) : ∀ n, (∀ i, i < n → ∃ v, P i v) → ∃ l : List α, l.length = n ∧ ∀ i v, l[i]? = some v → P i v
  | 0, _ => ⟨[], rfl, fun i v h => by simp at h⟩
  | n + 1, h => by
    obtain ⟨l, hl, hp⟩ := list_of P n (fun i hi => h i (by omega))
    obtain ⟨v, hv⟩ := h n (by omega)
    refine ⟨l ++ [v], by simp [hl], fun i u hu => ?_⟩
    by_cases c : i < n
    · rw [List.getElem?_append_left (by omega)] at hu
      exact hp i u hu
    · have hi : i < (l ++ [v]).length := (List.getElem?_eq_some_iff.1 hu).1
      rw [List.length_append, List.length_singleton] at hi
      have hin : i = n := by omega
      subst hin
      rw [List.getElem?_append_right (by omega), hl, Nat.sub_self] at hu
      obtain rfl : v = u := Option.some.inj hu
      exact hv

theorem C_read {α : Type} {d : Kd α} {Q : α → Prop} {w : World} {a : Addr} {n sz : Nat} (hsz : d.sz = sz) (hn : n ≤ maxLen)
    (h : ∀ i, i < n → ∃ cs v, w.cells? 0 (a.add (i * sz)) sz = some cs ∧ d.K w v cs ∧ Q v) :
    ∃ xs : List α, xs.length = n ∧ Kd.C d w (some a) n xs ∧ ∀ v ∈ xs, Q v := by
  subst hsz
  obtain ⟨xs, hl, hp⟩ := list_of (fun i v => ∃ cs, w.cells? 0 (a.add (i * d.sz)) d.sz = some cs ∧ d.K w v cs ∧ Q v) n (fun i hi => by
    obtain ⟨cs, v, h1, h2, h3⟩ := h i hi
    exact ⟨v, cs, h1, h2, h3⟩)
  refine ⟨xs, hl, ⟨hl, hn, fun _ => ⟨a, rfl, fun j p hj => ?_⟩⟩, fun v hv => ?_⟩
  · obtain ⟨cs, h1, h2, _⟩ := hp j p hj
    obtain ⟨_, hlen, hc⟩ := World.cells?_some h1
    refine ⟨cs, hlen, h2, fun i u hu => ?_⟩
    have hi := (List.getElem?_eq_some_iff.1 hu).1
    rw [← Addr.add_add, hc i (by omega)]
    exact hu
  · obtain ⟨j, hj, rfl⟩ := List.getElem_of_mem hv
    obtain ⟨cs, _, _, h3⟩ := hp j _ (List.getElem?_eq_getElem hj)
    exact h3

theorem cells9 : Tryd.prog.cellsOf 9 = 1 := by kernel_rfl
theorem cells26 : Tryd.prog.cellsOf 26 = 6 := by kernel_rfl
theorem cells3 : Tryd.prog.cellsOf 3 = 1 := by kernel_rfl

/-- A tree's words are of their kinds, its rows and texts of a size that can be, to so many levels. -/
def wideD : Nat → V → Prop
  | 0, _ => True
  | d + 1, x => (-9223372036854775808 ≤ x.f0 ∧ x.f0 ≤ 9223372036854775807) ∧ (-9223372036854775808 ≤ x.f1 ∧ x.f1 ≤ 9223372036854775807) ∧ (0 ≤ x.f2 ∧ x.f2 < 2 ^ 64) ∧ ∀ z ∈ x.f4, wideD d z
theorem wf_i64 {k : Int} (h : (Lit.int .i64 k).wf = true) : -9223372036854775808 ≤ k ∧ k ≤ 9223372036854775807 := by
  have h1 : (decide (IntKind.i64.min ≤ k) && decide (k ≤ IntKind.i64.max)) = true := h
  have e1 : IntKind.i64.min = -9223372036854775808 := by decide
  have e2 : IntKind.i64.max = 9223372036854775807 := by decide
  rw [e1, e2] at h1
  simpa using h1
theorem wf_u64 {k : Int} (h : (Lit.int .u64 k).wf = true) : 0 ≤ k ∧ k < 2 ^ 64 := by
  have h1 : (decide (IntKind.u64.min ≤ k) && decide (k ≤ IntKind.u64.max)) = true := h
  have e1 : IntKind.u64.min = 0 := by decide
  have e2 : IntKind.u64.max = 18446744073709551615 := by decide
  rw [e1, e2] at h1
  simp only [Bool.and_eq_true, decide_eq_true_eq] at h1
  omega
theorem rng_of_wide : ∀ d x, wideD d x → rngD d x
  | 0, _, _ => trivial
  | d + 1, x, h => ⟨h.2.2.1.1, h.2.2.1.2, fun z hz => rng_of_wide d z (h.2.2.2 z hz)⟩

section
variable {H : Type} {enc : TypeId × Value → H} {w : World} {sp : Nat → Bool} {held : Bool}

theorem read_texts {fuel : Nat} {cs : List Value} {x : DataW H × List MemPlace} {t : TypeId} (ht : Tryd.prog.underlying t = some (.slice 9)) (h : DataW.trod enc Tryd.prog w 0 sp held fuel t cs = some x) :
    ∃ A l c, cs = [.slice A l.length c] ∧ l.length ≤ c ∧ Kd.C Kd.string w A l.length l := by
  rcases DataW.trod_slice ht h with ⟨rfl, _⟩ | ⟨a, len, cap, elems, rest, n, rfl, rfl, _, _, hlc, hcm, hel, hcells, _, _⟩
  · exact ⟨none, [], 0, rfl, Nat.le_refl _, Kd.C_nil _ _⟩
  · rw [cells9] at hcells
    obtain ⟨xs, hl, hC, _⟩ := C_read (d := Kd.string) (Q := fun _ => True) (w := w) (a := a) (n := len) (sz := 1) rfl (Nat.le_trans hlc hcm) (fun i hi => by
      have h1 := hcells i hi
      rw [List.getElem?_eq_getElem (by omega)] at h1
      obtain ⟨c1, hc1, ht1⟩ := Option.bind_eq_some_iff.1 h1
      obtain ⟨s, rfl, _, _⟩ := DataW.trod_string Tryd.underlying9 ht1
      exact ⟨_, s, hc1, rfl, trivial⟩)
    subst hl
    exact ⟨some a, xs, cap, rfl, hlc, hC⟩

set_option maxRecDepth 100000 in
theorem read_value : ∀ (fuel : Nat) (cs : List Value) (x : DataW H × List MemPlace), DataW.trod enc Tryd.prog w 0 sp held fuel 26 cs = some x → ∃ v : V, k26.K w v cs ∧ ∀ d, wideD d v
  | 0, cs, x, h => by simp [DataW.trod] at h
  | n + 1, cs, x, h => by
    obtain ⟨xs, m, hm, _, hl, hxl, hf⟩ := DataW.trod_struct Tryd.underlying26 h
    obtain rfl : n = m := by omega
    rw [cells26] at hl
    obtain ⟨c0, c1, c2, c3, c4, c5, rfl⟩ : ∃ c0 c1 c2 c3 c4 c5, cs = [c0, c1, c2, c3, c4, c5] := by
      match cs, hl with
      | [c0, c1, c2, c3, c4, c5], _ => exact ⟨_, _, _, _, _, _, rfl⟩
    have hx6 : xs.length = 6 := hxl
    have f0 := hf 0 _ rfl
    have f1 := hf 1 _ rfl
    have f2 := hf 2 _ rfl
    have f3 := hf 3 _ rfl
    have f4 := hf 4 _ rfl
    have f5 := hf 5 _ rfl
    rw [List.getElem?_eq_getElem (by omega)] at f0 f1 f2 f3 f4 f5
    obtain ⟨k0, e0, _, w0⟩ := DataW.trod_int Tryd.underlying3 f0
    obtain ⟨k1, e1, _, w1⟩ := DataW.trod_int Tryd.underlying3 f1
    obtain ⟨k2, e2, _, w2⟩ := DataW.trod_int Tryd.underlying22 f2
    obtain ⟨s3, e3, _, w3⟩ := DataW.trod_string Tryd.underlying9 f3
    obtain ⟨A5, l5, p5, e5, h5, r5⟩ := read_texts Tryd.underlying24 f5
    have g0 : c0 = .int .i64 k0 := by have q : [c0] = [Value.int .i64 k0] := e0; injection q
    have g1 : c1 = .int .i64 k1 := by have q : [c1] = [Value.int .i64 k1] := e1; injection q
    have g2 : c2 = .int .u64 k2 := by have q : [c2] = [Value.int .u64 k2] := e2; injection q
    have g3 : c3 = .string s3 := by have q : [c3] = [Value.string s3] := e3; injection q
    have g5 : c5 = .slice A5 l5.length p5 := by have q : [c5] = [Value.slice A5 l5.length p5] := e5; injection q
    have b0 := wf_i64 w0
    have b1 := wf_i64 w1
    have b2 := wf_u64 w2
    obtain ⟨A4, l4, p4, g4, h4, r4, q4⟩ : ∃ (A : Option Addr) (l : List V) (c : Nat), c4 = .slice A l.length c ∧ l.length ≤ c ∧ Kd.C k26 w A l.length l ∧ ∀ z ∈ l, ∀ d, wideD d z := by
      rcases DataW.trod_slice Tryd.underlying23 f4 with ⟨e4, _⟩ | ⟨a, len, cap, elems, rest, n', rfl, e4, _, _, hlc, hcm, hel, hcells, _, _⟩
      · exact ⟨none, [], 0, by have q : [c4] = [Value.slice none 0 0] := e4; injection q, Nat.le_refl _, Kd.C_nil _ _, fun z hz => by cases hz⟩
      · rw [cells26] at hcells
        obtain ⟨ys, hyl, hC, hQ⟩ := C_read (d := k26) (Q := fun v => ∀ d, wideD d v) (w := w) (a := a) (n := len) (sz := 6) rfl (Nat.le_trans hlc hcm) (fun i hi => by
          have h1 := hcells i hi
          rw [List.getElem?_eq_getElem (by omega)] at h1
          obtain ⟨cc, hcc, ht1⟩ := Option.bind_eq_some_iff.1 h1
          obtain ⟨v, hk, hw⟩ := read_value n' cc _ ht1
          exact ⟨_, v, hcc, hk, hw⟩)
        subst hyl
        exact ⟨some a, ys, cap, by have q : [c4] = [Value.slice (some a) ys.length cap] := e4; injection q, hlc, hC, hQ⟩
    subst g0 g1 g2 g3 g4 g5
    refine ⟨⟨k0, k1, k2, s3, l4, l5⟩, k26_mk w ⟨k0, k1, k2, s3, l4, l5⟩ h4 r4 h5 r5, fun d => ?_⟩
    cases d with
    | zero => trivial
    | succ d => exact ⟨b0, b1, b2, fun z hz => q4 z hz d⟩
termination_by fuel => fuel

set_option maxRecDepth 100000 in
/-- A value that comes in. -/
theorem open_value {r : Reach} {b0 : Nat} {v : Value} {d : DataW H} {ps : List MemPlace} (hval : Value.okWide Tryd.prog w r b0 26 v) (h : DataW.Trod enc Tryd.prog w 0 sp held 26 v d ps) :
    ∃ (x : V) (A4 : Option Addr) (c4 : Nat) (A5 : Option Addr) (c5 : Nat), v = arg x A4 c4 A5 c5 ∧ Rows4 w x A4 c4 A5 c5 ∧ ∀ d, wideD d x := by
  obtain ⟨fuel, h⟩ := h
  unfold Value.okWide at hval
  rw [Tryd.underlying26] at hval
  obtain ⟨cs, rfl, _, _⟩ := hval
  obtain ⟨x, hk, hw⟩ := read_value fuel _ _ h
  obtain ⟨A4, c4, A5, c5, e, l4, g4, l5, g5⟩ := k26_open hk
  refine ⟨x, A4, c4, A5, c5, ?_, ⟨g4, l4, g5, l5⟩, hw⟩
  have e' : cs.toList = _ := e
  have : cs = #[.int .i64 x.f0, .int .i64 x.f1, .int .u64 x.f2, .string x.f3, .slice A4 x.f4.length c4, .slice A5 x.f5.length c5] := by
    apply Array.ext'
    exact e'
  rw [this]

/-- A row of values that comes in. -/
theorem open_values {v : Value} {d : DataW H} {ps : List MemPlace} (hv : v.cells.toList = [v]) (h : DataW.Trod enc Tryd.prog w 0 sp held 23 v d ps) :
    ∃ (A : Option Addr) (l : List V) (c : Nat), v = .slice A l.length c ∧ l.length ≤ c ∧ Kd.C k26 w A l.length l ∧ ∀ z ∈ l, ∀ d, wideD d z := by
  obtain ⟨fuel, h⟩ := h
  rw [hv] at h
  rcases DataW.trod_slice Tryd.underlying23 h with ⟨e4, _⟩ | ⟨a, len, cap, elems, rest, n', rfl, e4, _, _, hlc, hcm, hel, hcells, _, _⟩
  · exact ⟨none, [], 0, by injection e4, Nat.le_refl _, Kd.C_nil _ _, fun z hz => by cases hz⟩
  · rw [cells26] at hcells
    obtain ⟨ys, hyl, hC, hQ⟩ := C_read (d := k26) (Q := fun v => ∀ d, wideD d v) (w := w) (a := a) (n := len) (sz := 6) rfl (Nat.le_trans hlc hcm) (fun i hi => by
      have h1 := hcells i hi
      rw [List.getElem?_eq_getElem (by omega)] at h1
      obtain ⟨cc, hcc, ht1⟩ := Option.bind_eq_some_iff.1 h1
      obtain ⟨v, hk, hw⟩ := read_value n' cc _ ht1
      exact ⟨_, v, hcc, hk, hw⟩)
    subst hyl
    exact ⟨some a, ys, cap, by injection e4, hlc, hC, hQ⟩
end
end Go.Proofs.YtepolmajebdphaaDoor.Values
namespace Go.Proofs.YtepolmajebdphaaDoor.Fns
open Go.RowKit Go.Proofs.YtepolmajebdphaaDoor.Q Go.Proofs.YtepolmajebdphaaDoor.Real Go.Proofs.YtepolmajebdphaaDoor.RealPure Go.Proofs.YtepolmajebdphaaDoor.Values Go.Proofs.YtepolmajebdphaaDoorW.PrintWords Go.Proofs.YtepolmajebdphaaDoorW.PrintLast Go.Proofs.YtepolmajebdphaaDoorW.PrintMore
set_option linter.unusedSimpArgs false
set_option linter.unusedVariables false
set_option maxRecDepth 100000

def GotR (w w' : World) (e : Ending) (R : V × Int) : Prop := ∃ A c B d, e = .returned (.tuple #[.agg #[.int .i64 R.1.f0, .int .i64 R.1.f1, .int .u64 R.1.f2, .string R.1.f3, .slice A R.1.f4.length c, .slice B R.1.f5.length d], .int .i64 R.2]) ∧ Rows4 w' R.1 A c B d ∧ Below w.heap.size w w'
theorem got_r {w w0 w' : World} {e : Ending} {R : V × Int} (h : Got w w' e R) (hb : Below w0.heap.size w0 w) : GotR w0 w' e R := by
  obtain ⟨v4, v5, rfl, h4, h5, hbb⟩ := h
  obtain ⟨A, c, rfl, l4, k4⟩ := Kd.R_reads h4
  obtain ⟨B, d, rfl, l5, k5⟩ := Kd.R_reads h5
  exact ⟨A, c, B, d, rfl, ⟨k4, l4, k5, l5⟩, below_step hb hbb⟩
theorem call0 (nm : ByteArray) (w : World) (hT : Tabs w) (W : World) (hb : Below w.heap.size w W) :
    Calls Tryd.prog 42 #[.string nm, .slice none 0 0] W fun e w' => GotR W w' e (callR nm []) :=
  (Call_calls nm [] none 0 W ⟨hT.below hb, by simp, Kd.C_nil _ _, fun z hz => by cases hz⟩).mono fun e w' h => got_r h (Below.refl _ _)
theorem call1 (nm : ByteArray) (x : V) (A4 : Option Addr) (c4 : Nat) (A5 : Option Addr) (c5 : Nat) (w : World) (hT : Tabs w) (hx : Rows4 w x A4 c4 A5 c5) (rx : rngD 8 x) (W : World) (hb : Below w.heap.size w W) :
    Calls Tryd.prog 42 #[.string nm, .slice (some ⟨W.heap.size, 0, none⟩) 1 1] (W.alloc (.cells #[.int .i64 x.f0, .int .i64 x.f1, .int .u64 x.f2, .string x.f3, .slice A4 x.f4.length c4, .slice A5 x.f5.length c5] 26)) fun e w' => GotR W w' e (callR nm [x]) := by
  have hr := row_lit W [x] _ (reps1 (K_of (hx.below hb))) (by simp)
  have hb2 : Below W.heap.size W (W.alloc (.cells #[.int .i64 x.f0, .int .i64 x.f1, .int .u64 x.f2, .string x.f3, .slice A4 x.f4.length c4, .slice A5 x.f5.length c5] 26)) := below_alloc (Below.refl _ _) _
  exact (Call_calls nm [x] _ 1 _ ⟨hT.below (below_step hb hb2), by simp, hr, fun z hz => by
    obtain rfl := List.mem_singleton.1 hz
    exact rx⟩).mono fun e w' h => got_r h hb2
theorem call2 (nm : ByteArray) (x y : V) (A4 : Option Addr) (c4 : Nat) (A5 : Option Addr) (c5 : Nat) (B4 : Option Addr) (d4 : Nat) (B5 : Option Addr) (d5 : Nat) (w : World) (hT : Tabs w) (hx : Rows4 w x A4 c4 A5 c5) (hy : Rows4 w y B4 d4 B5 d5) (rx : rngD 8 x) (ry : rngD 8 y) (W : World) (hb : Below w.heap.size w W) :
    Calls Tryd.prog 42 #[.string nm, .slice (some ⟨W.heap.size, 0, none⟩) 2 2] (W.alloc (.cells #[.int .i64 x.f0, .int .i64 x.f1, .int .u64 x.f2, .string x.f3, .slice A4 x.f4.length c4, .slice A5 x.f5.length c5, .int .i64 y.f0, .int .i64 y.f1, .int .u64 y.f2, .string y.f3, .slice B4 y.f4.length d4, .slice B5 y.f5.length d5] 26)) fun e w' => GotR W w' e (callR nm [x, y]) := by
  have hr := row_lit W [x, y] _ (reps2 (K_of (hx.below hb)) (K_of (hy.below hb))) (by simp)
  have hb2 : Below W.heap.size W (W.alloc (.cells #[.int .i64 x.f0, .int .i64 x.f1, .int .u64 x.f2, .string x.f3, .slice A4 x.f4.length c4, .slice A5 x.f5.length c5, .int .i64 y.f0, .int .i64 y.f1, .int .u64 y.f2, .string y.f3, .slice B4 y.f4.length d4, .slice B5 y.f5.length d5] 26)) := below_alloc (Below.refl _ _) _
  exact (Call_calls nm [x, y] _ 2 _ ⟨hT.below (below_step hb hb2), by simp, hr, fun z hz => by
    simp only [List.mem_cons, List.not_mem_nil, or_false] at hz
    rcases hz with rfl | rfl
    · exact rx
    · exact ry⟩).mono fun e w' h => got_r h hb2
def bI (b : Bool) : Int := if b then 1 else 0
theorem truthC (b : Bool) (w : World) : Calls Tryd.prog 43 #[.bool b] w fun e w' => e = .returned (.agg #[.int .i64 1, .int .i64 (bI b), .int .u64 0, .string ⟨#[]⟩, .slice none 0 0, .slice none 0 0]) ∧ Below w.heap.size w w' := by
  have hu26 := Tryd.underlying26
  cases b
  · go_enter Tryd.func43, Tryd.ntmps43
    go_wp2
    refine bodyPost_ret (results_cell_row rfl _ _ w.heap.size 26 _ (0, 0) _ rfl (blk_new w _) hu26 rfl (by exact size26)) rfl ?_
    exact ⟨rfl, below_alloc (Below.refl _ _) _⟩
  · go_enter Tryd.func43, Tryd.ntmps43
    go_wp2
    refine bodyPost_ret (results_cell_row rfl _ _ w.heap.size 26 _ (0, 0) _ rfl (blk_new w _) hu26 rfl (by exact size26)) rfl ?_
    exact ⟨rfl, below_alloc (Below.refl _ _) _⟩
theorem numC (i : Int) (W : World) : Calls Tryd.prog 25 #[.int .i64 i] W fun e w' => e = .returned (.int .i64 i) ∧ Drawn0 W w' := stolelaw0_Num.calls i i W rfl

theorem numB (i : Int) (W : World) : Calls Tryd.prog 25 #[.int .i64 i] W fun e w' => e = .returned (.int .i64 i) ∧ Below W.heap.size W w' := (numC i W).mono fun e w' ⟨h, m, hm⟩ => ⟨h, by rw [hm]; exact pw_below_drewN (Below.refl _ _) m⟩

/-! ### what they answer -/
theorem callR_of (nm : ByteArray) (xs : List V) (f : Nat) (hf : fnNo nm = f) (hk : (knownR f).2.2 = true) (hc : countBad (knownR f) xs.length = false) (hm : ∀ z ∈ xs, mayB z = true) : callR nm xs = doesR f xs := by
  unfold callR
  rw [hf, if_neg (by rw [hk]; decide), if_neg (by rw [hc]; decide), if_neg]
  intro h
  obtain ⟨z, hz, hq⟩ := List.any_eq_true.1 h
  rw [hm z hz] at hq
  cases hq
theorem callR_bad (nm : ByteArray) (xs : List V) (f : Nat) (hf : fnNo nm = f) (hk : (knownR f).2.2 = true) (hc : countBad (knownR f) xs.length = false) (z : V) (hz : z ∈ xs) (hm : mayB z = false) : callR nm xs = (z26, 1802) := by
  unfold callR
  rw [hf, if_neg (by rw [hk]; decide), if_neg (by rw [hc]; decide), if_pos]
  exact List.any_eq_true.2 ⟨z, hz, by rw [hm]; rfl⟩
theorem truth_bool (b : Bool) : truthB (boolV b) = b := by cases b <;> kernel_rfl
theorem may_bool (b : Bool) : mayB (boolV b) = true := by cases b <;> kernel_rfl
theorem deep_leaf (x : V) (h : x.f4 = []) : deepD 1 x := by intro z hz; rw [h] at hz; cases hz

theorem eqFrom_refl (l : List ByteArray) : ∀ m i, eqFrom l l m i = true
  | 0, _ => rfl
  | m + 1, i => by unfold eqFrom; rw [eqFrom_refl l m (i + 1), beq_self_eq_true]; rfl
theorem texts_refl (l : List ByteArray) : textsB l l = true := by unfold textsB; rw [eqFrom_refl, decide_eq_true rfl]; rfl
theorem sameL_refl (f : V → V → Bool) : ∀ l : List V, (∀ z ∈ l, f z z = true) → sameL f l l = true
  | [], _ => rfl
  | y :: ys, h => by unfold sameL; rw [h y List.mem_cons_self, sameL_refl f ys (fun z hz => h z (List.mem_cons_of_mem _ hz))]; rfl
theorem sv_refl : ∀ d x, deepD d x → svD d x x = true
  | 0, x, h => h.elim
  | d + 1, x, h => by
    unfold svD
    rw [texts_refl, sameL_refl (svD d) x.f4 (fun z hz => sv_refl d z (h z hz))]
    simp
theorem eqFrom_symm (l l' : List ByteArray) : ∀ m i, eqFrom l l' m i = eqFrom l' l m i
  | 0, _ => rfl
  | m + 1, i => by unfold eqFrom; rw [eqFrom_symm l l' m (i + 1), Bool.beq_comm (a := (l.getD i ByteArray.empty).toList)]
theorem equal_symm (l l' : List ByteArray) : equalB l l' = equalB l' l := by
  unfold equalB
  by_cases h : l.length = l'.length
  · rw [h, eqFrom_symm]
  · rw [decide_eq_false h, decide_eq_false (Ne.symm h)]; rfl
theorem sameL_symm (f : V → V → Bool) (hf : ∀ a b, f a b = f b a) : ∀ l l' : List V, sameL f l l' = sameL f l' l
  | [], [] => rfl
  | [], _ :: _ => rfl
  | _ :: _, [] => rfl
  | x :: xs, y :: ys => by unfold sameL; rw [hf x y, sameL_symm f hf xs ys]
theorem sameReal_symm (a b : Int) : sameRealB a b = sameRealB b a := by
  unfold sameRealB
  by_cases h : kindN a.toNat = kindN b.toNat
  · rw [h, Bool.beq_comm (a := a)]
  · rw [beq_eq_false_iff_ne.2 h, beq_eq_false_iff_ne.2 (Ne.symm h)]; rfl
theorem sameD_symm : ∀ d x y, sameD d x y = sameD d y x
  | 0, _, _ => rfl
  | d + 1, x, y => by
    unfold sameD
    by_cases h : x.f0 = y.f0
    · rw [if_pos (beq_iff_eq.2 h), if_pos (beq_iff_eq.2 h.symm), h, sameReal_symm, equal_symm, sameL_symm (sameD d) (sameD_symm d), Bool.beq_comm (a := x.f1), Bool.beq_comm (a := x.f3.toList)]
    · rw [if_neg (fun hh => h (eq_of_beq hh)), if_neg (fun hh => h (eq_of_beq hh).symm)]
end Go.Proofs.YtepolmajebdphaaDoor.Fns
namespace Go.Proofs.YtepolmajebdphaaDoor.Fns
open Go.RowKit Go.Proofs.YtepolmajebdphaaDoor.Q Go.Proofs.YtepolmajebdphaaDoor.Real Go.Proofs.YtepolmajebdphaaDoor.RealPure Go.Proofs.YtepolmajebdphaaDoor.Values Go.Proofs.YtepolmajebdphaaDoorW.PrintWords Go.Proofs.YtepolmajebdphaaDoorW.PrintLast Go.Proofs.YtepolmajebdphaaDoorW.PrintMore
set_option linter.unusedSimpArgs false
set_option linter.unusedVariables false
set_option maxRecDepth 100000

def SameFrom (b : Nat) (W W1 : World) : Prop := ∀ k, b ≤ k → k < W.heap.size → W1.heap[k]? = W.heap[k]?
theorem same_alloc (W : World) (o : Obj) (b : Nat) : SameFrom b W (W.alloc o) := fun k _ hk => (below_alloc (Below.refl W.heap.size W) o).block k hk
theorem same_set {b : Nat} {W W1 : World} (h : SameFrom b W W1) {g : Nat} (hg : g < b) (j : Nat) (v : Value) : SameFrom b W (W1.setCell ⟨g, j, none⟩ v) :=
  fun k hk hl => (Below.heap_setCell W1 ⟨g, j, none⟩ v k (by show k ≠ g; omega)).trans (h k hk hl)
theorem same_six {W : World} {b g : Nat} (hg : g < b) (v0 v1 v2 v3 v4 v5 : Value) :
    SameFrom b W ((((((W.setCell ⟨g, 0, none⟩ v0).setCell ⟨g, 1, none⟩ v1).setCell ⟨g, 2, none⟩ v2).setCell ⟨g, 3, none⟩ v3).setCell ⟨g, 4, none⟩ v4).setCell ⟨g, 5, none⟩ v5) :=
  same_set (same_set (same_set (same_set (same_set (same_set (fun _ _ _ => rfl) hg 0 v0) hg 1 v1) hg 2 v2) hg 3 v3) hg 4 v4) hg 5 v5
theorem rows_from {x : V} {E : Option Addr} {e : Nat} {F : Option Addr} {f : Nat} {W W1 : World} {b : Nat} {ok ok' : Nat → Prop}
    (h : Kd.R k26 26 W b ok (.slice E x.f4.length e) x.f4 ∧ Kd.R Kd.string 9 W b ok' (.slice F x.f5.length f) x.f5) (hs : SameFrom b W W1) : Rows4 W1 x E e F f := by
  obtain ⟨A, c, he, l4, k4⟩ := Kd.R_reads (Kd.R_move (Kd.R_bound h.1) (fun k hk => hs k hk.2.1 hk.2.2.1))
  obtain ⟨B, d, he', l5, k5⟩ := Kd.R_reads (Kd.R_move (Kd.R_bound h.2) (fun k hk => hs k hk.2.1 hk.2.2.1))
  injection he with e1 _ e3
  injection he' with e1' _ e3'
  subst e1 e3 e1' e3'
  exact ⟨k4, l4, k5, l5⟩
theorem row_block {W : World} {g : Nat} {xs : List V} {cs : List Value} (hg : W.heap[g]? = some (.cells cs.toArray 26 (0, 0))) (h : Reps (k26.K W) 6 xs cs) (hl : xs.length ≤ 9223372036854775807) : Kd.C k26 W (some ⟨g, 0, none⟩) xs.length xs := by
  refine ⟨rfl, hl, fun _ => ⟨⟨g, 0, none⟩, rfl, fun j p hj => ⟨(cs.drop (j * 6)).take 6, ?_, h.2 j p hj, fun i u hu => ?_⟩⟩⟩
  · have hjl := (List.getElem?_eq_some_iff.1 hj).1
    have h1 : j * 6 + 6 ≤ cs.length := by rw [h.1, ← Nat.succ_mul]; exact Nat.mul_le_mul_right _ hjl
    show ((cs.drop (j * 6)).take 6).length = 6
    rw [List.length_take, List.length_drop]
    omega
  · rw [List.getElem?_take] at hu
    split at hu
    · rw [List.getElem?_drop] at hu
      show W.cell? ((⟨g, 0, none⟩ : Addr).add (j * 6 + i)) = some u
      rw [Addr.add_lit, blk_cell hg _]
      simpa using hu
    · cases hu
theorem leafK2 (W : World) (y : V) (h4 : y.f4 = []) (h5 : y.f5 = []) : k26.K W y [.int .i64 y.f0, .int .i64 y.f1, .int .u64 y.f2, .string y.f3, .slice none 0 0, .slice none 0 0] := leafK W y h4 h5
/-- A call of two: a value, and a leaf that was just made. -/
theorem call2g (nm : ByteArray) (x y : V) (A4 : Option Addr) (c4 : Nat) (A5 : Option Addr) (c5 : Nat) (w : World) (hT : Tabs w) (hx : Rows4 w x A4 c4 A5 c5) (rx : rngD 8 x) (h4 : y.f4 = []) (h5 : y.f5 = []) (h2 : 0 ≤ y.f2) (h2' : y.f2 < 2 ^ 64) (g : Nat) (W : World) (hb : Below w.heap.size w W)
    (hg : W.heap[g]? = some (.cells #[.int .i64 x.f0, .int .i64 x.f1, .int .u64 x.f2, .string x.f3, .slice A4 x.f4.length c4, .slice A5 x.f5.length c5, .int .i64 y.f0, .int .i64 y.f1, .int .u64 y.f2, .string y.f3, .slice none 0 0, .slice none 0 0] 26 (0, 0))) :
    Calls Tryd.prog 42 #[.string nm, .slice (some ⟨g, 0, none⟩) 2 2] W fun e w' => Got W w' e (callR nm [x, y]) := by
  have hr := row_block (xs := [x, y]) (cs := [.int .i64 x.f0, .int .i64 x.f1, .int .u64 x.f2, .string x.f3, .slice A4 x.f4.length c4, .slice A5 x.f5.length c5, .int .i64 y.f0, .int .i64 y.f1, .int .u64 y.f2, .string y.f3, .slice none 0 0, .slice none 0 0]) hg (reps2 (K_of (hx.below hb)) (leafK2 W y h4 h5)) (by simp)
  exact Call_calls nm [x, y] _ 2 W ⟨hT.below hb, by simp, hr, fun z hz => by
    simp only [List.mem_cons, List.not_mem_nil, or_false] at hz
    rcases hz with rfl | rfl
    · exact rx
    · exact ⟨h2, h2', fun z hz => by rw [h4] at hz; cases hz⟩⟩

/-! ### what they answer of a list -/
def listT (l : List V) : V := ⟨5, 0, 0, ⟨#[]⟩, l, []⟩
theorem len_of_may {x : V} (h : mayB x = true) : x.f4.length ≤ 64 ∧ x.f5.length ≤ 64 := len_of_own (own_of_may h)
theorem may_numV (i : Int) (h0 : -9007199254740991 ≤ i) (h1 : i ≤ 9007199254740991) : mayB (numV i) = true := by
  have hp : plainB (numV i) = true := by kernel_rfl
  have ho : ownB (numV i) = true := by
    unfold ownB
    rw [hp]
    simp [numV, intB, h0, h1]
  unfold mayB
  rw [mayD, if_neg (by decide), if_pos ho]
  rfl
theorem may_bitsV (u : Int) : mayB (bitsV u) = true := by kernel_rfl
theorem may_textV (s : ByteArray) (h : s.size ≤ 65536) : mayB (textV s) = true := by
  have hp : plainB (textV s) = true := by kernel_rfl
  have ho : ownB (textV s) = true := by
    unfold ownB
    rw [hp]
    simp [textV, h]
  unfold mayB
  rw [mayD, if_neg (by decide), if_pos ho]
  rfl
theorem two_may {x y : V} (hx : mayB x = true) (hy : mayB y = true) : ∀ z ∈ [x, y], mayB z = true := fun z hz => by
  simp only [List.mem_cons, List.not_mem_nil, or_false] at hz
  rcases hz with rfl | rfl
  · exact hx
  · exact hy
theorem one_may {x : V} (hx : mayB x = true) : ∀ z ∈ [x], mayB z = true := fun z hz => by rw [List.mem_singleton.1 hz]; exact hx
theorem callR_len (x : V) (hm : mayB x = true) (h5 : x.f0 = 5 ∨ x.f0 = 6) : callR (⟨#[108, 101, 110]⟩ : ByteArray) [x] = (numV x.f4.length, 0) := by
  rw [callR_of _ _ 0 (by kernel_rfl) (by kernel_rfl) (by kernel_rfl) (one_may hm)]
  show lengthR x = _
  unfold lengthR
  rcases h5 with h | h <;> rw [h] <;> rfl
theorem callR_index (x y : V) (hx : mayB x = true) (hy : mayB y = true) : callR (⟨#[105, 110, 100, 101, 120]⟩ : ByteArray) [x, y] = indexR x y := by
  rw [callR_of _ _ 1 (by kernel_rfl) (by kernel_rfl) (by kernel_rfl) (two_may hx hy)]
  rfl
end Go.Proofs.YtepolmajebdphaaDoor.Fns
