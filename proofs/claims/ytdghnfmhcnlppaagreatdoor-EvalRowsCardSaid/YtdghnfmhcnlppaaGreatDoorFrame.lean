/- The frame of a row whose arguments are values: what reads as data is a tree whose rows lie. -/
import Derived.Test.YtdghnfmhcnlppaaGreatDoorValues
import Derived.ChangeArms
import Derived.DataElems
import Derived.Carry
namespace Go.Proofs.YtdghnfmhcnlppaaGreatDoor.Values
open Go.RowKit Go.Proofs.YtdghnfmhcnlppaaGreatDoor.Q Go.Proofs.YtdghnfmhcnlppaaGreatDoor.Real Go.Proofs.YtdghnfmhcnlppaaGreatDoor.RealPure Go.Proofs.YtdghnfmhcnlppaaGreatDoorW.PrintWords Go.Proofs.YtdghnfmhcnlppaaGreatDoorW.PrintLast Go.Proofs.YtdghnfmhcnlppaaGreatDoorW.PrintMore
set_option linter.unusedSimpArgs false
set_option linter.unusedVariables false

/-- A list out of what is there at each place. -/
theorem list_of {α : Type} (P : Nat → α → Prop) : ∀ n, (∀ i, i < n → ∃ v, P i v) → ∃ l : List α, l.length = n ∧ ∀ i v, l[i]? = some v → P i v
  | 0, _ => ⟨[], rfl, fun i v h => by simp at h⟩
  | n + 1, h => by
    obtain ⟨l, hl, hp⟩ := list_of P n (fun i hi => h i (by omega))
    obtain ⟨v, hv⟩ := h n (by omega)
    refine ⟨l ++ [v], by simp [hl], fun i u hu => ?_⟩
    by_cases c : i < n
    · rw [List.getElem?_append_left (by omega)] at hu
      exact hp i u hu
    · have hi : i < (l ++ [v]).length := (List.getElem?_eq_some_iff.1 hu).1
      rw [List.length_append, List.length_singleton] at hi
      have hin : i = n := by omega
      subst hin
      rw [List.getElem?_append_right (by omega), hl, Nat.sub_self] at hu
      obtain rfl : v = u := Option.some.inj hu
      exact hv

theorem C_read {α : Type} {d : Kd α} {Q : α → Prop} {w : World} {a : Addr} {n sz : Nat} (hsz : d.sz = sz) (hn : n ≤ maxLen)
    (h : ∀ i, i < n → ∃ cs v, w.cells? 0 (a.add (i * sz)) sz = some cs ∧ d.K w v cs ∧ Q v) :
    ∃ xs : List α, xs.length = n ∧ Kd.C d w (some a) n xs ∧ ∀ v ∈ xs, Q v := by
  subst hsz
  obtain ⟨xs, hl, hp⟩ := list_of (fun i v => ∃ cs, w.cells? 0 (a.add (i * d.sz)) d.sz = some cs ∧ d.K w v cs ∧ Q v) n (fun i hi => by
    obtain ⟨cs, v, h1, h2, h3⟩ := h i hi
    exact ⟨v, cs, h1, h2, h3⟩)
  refine ⟨xs, hl, ⟨hl, hn, fun _ => ⟨a, rfl, fun j p hj => ?_⟩⟩, fun v hv => ?_⟩
  · obtain ⟨cs, h1, h2, _⟩ := hp j p hj
    obtain ⟨_, hlen, hc⟩ := World.cells?_some h1
    refine ⟨cs, hlen, h2, fun i u hu => ?_⟩
    have hi := (List.getElem?_eq_some_iff.1 hu).1
    rw [← Addr.add_add, hc i (by omega)]
    exact hu
  · obtain ⟨j, hj, rfl⟩ := List.getElem_of_mem hv
    obtain ⟨cs, _, _, h3⟩ := hp j _ (List.getElem?_eq_getElem hj)
    exact h3

theorem cells9 : Tryz.prog.cellsOf 9 = 1 := by kernel_rfl
theorem cells27 : Tryz.prog.cellsOf 27 = 6 := by kernel_rfl
/-- A tree's words are of their kinds, its rows and texts of a size that can be, to so many levels. -/
def wideD : Nat → V → Prop
  | 0, _ => True
  | d + 1, x => (-9223372036854775808 ≤ x.f0 ∧ x.f0 ≤ 9223372036854775807) ∧ (-9223372036854775808 ≤ x.f1 ∧ x.f1 ≤ 9223372036854775807) ∧ (0 ≤ x.f2 ∧ x.f2 < 2 ^ 64) ∧ ∀ z ∈ x.f4, wideD d z
theorem wf_i64 {k : Int} (h : (Lit.int .i64 k).wf = true) : -9223372036854775808 ≤ k ∧ k ≤ 9223372036854775807 := by
  have h1 : (decide (IntKind.i64.min ≤ k) && decide (k ≤ IntKind.i64.max)) = true := h
  have e1 : IntKind.i64.min = -9223372036854775808 := by decide
  have e2 : IntKind.i64.max = 9223372036854775807 := by decide
  rw [e1, e2] at h1
  simpa using h1
theorem wf_u64 {k : Int} (h : (Lit.int .u64 k).wf = true) : 0 ≤ k ∧ k < 2 ^ 64 := by
  have h1 : (decide (IntKind.u64.min ≤ k) && decide (k ≤ IntKind.u64.max)) = true := h
  have e1 : IntKind.u64.min = 0 := by decide
  have e2 : IntKind.u64.max = 18446744073709551615 := by decide
  rw [e1, e2] at h1
  simp only [Bool.and_eq_true, decide_eq_true_eq] at h1
  omega
theorem rng_of_wide : ∀ d x, wideD d x → rngD d x
  | 0, _, _ => trivial
  | d + 1, x, h => ⟨h.2.2.1.1, h.2.2.1.2, fun z hz => rng_of_wide d z (h.2.2.2 z hz)⟩

section
variable {H : Type} {enc : TypeId × Value → H} {w : World} {sp : Nat → Bool} {held : Bool}

theorem read_texts {fuel : Nat} {cs : List Value} {x : DataW H × List MemPlace} {t : TypeId} (ht : Tryz.prog.underlying t = some (.slice 9)) (h : DataW.trod enc Tryz.prog w 0 sp held fuel t cs = some x) :
    ∃ A l c, cs = [.slice A l.length c] ∧ l.length ≤ c ∧ Kd.C Kd.string w A l.length l := by
  rcases DataW.trod_slice ht h with ⟨rfl, _⟩ | ⟨a, len, cap, elems, rest, n, rfl, rfl, _, _, hlc, hcm, hel, hcells, _, _⟩
  · exact ⟨none, [], 0, rfl, Nat.le_refl _, Kd.C_nil _ _⟩
  · rw [cells9] at hcells
    obtain ⟨xs, hl, hC, _⟩ := C_read (d := Kd.string) (Q := fun _ => True) (w := w) (a := a) (n := len) (sz := 1) rfl (Nat.le_trans hlc hcm) (fun i hi => by
      have h1 := hcells i hi
      rw [List.getElem?_eq_getElem (by omega)] at h1
      obtain ⟨c1, hc1, ht1⟩ := Option.bind_eq_some_iff.1 h1
      obtain ⟨s, rfl, _, _⟩ := DataW.trod_string Tryz.underlying9 ht1
      exact ⟨_, s, hc1, rfl, trivial⟩)
    subst hl
    exact ⟨some a, xs, cap, rfl, hlc, hC⟩

set_option maxRecDepth 100000 in
theorem read_value : ∀ (fuel : Nat) (cs : List Value) (x : DataW H × List MemPlace), DataW.trod enc Tryz.prog w 0 sp held fuel 27 cs = some x → ∃ v : V, k27.K w v cs ∧ ∀ d, wideD d v
  | 0, cs, x, h => by simp [DataW.trod] at h
  | n + 1, cs, x, h => by
    obtain ⟨xs, m, hm, _, hl, hxl, hf⟩ := DataW.trod_struct Tryz.underlying27 h
    obtain rfl : n = m := by omega
    rw [cells27] at hl
    obtain ⟨c0, c1, c2, c3, c4, c5, rfl⟩ : ∃ c0 c1 c2 c3 c4 c5, cs = [c0, c1, c2, c3, c4, c5] := by
      match cs, hl with
      | [c0, c1, c2, c3, c4, c5], _ => exact ⟨_, _, _, _, _, _, rfl⟩
    have hx6 : xs.length = 6 := hxl
    have f0 := hf 0 _ rfl
    have f1 := hf 1 _ rfl
    have f2 := hf 2 _ rfl
    have f3 := hf 3 _ rfl
    have f4 := hf 4 _ rfl
    have f5 := hf 5 _ rfl
    rw [List.getElem?_eq_getElem (by omega)] at f0 f1 f2 f3 f4 f5
    obtain ⟨k0, e0, _, w0⟩ := DataW.trod_int Tryz.underlying3 f0
    obtain ⟨k1, e1, _, w1⟩ := DataW.trod_int Tryz.underlying3 f1
    obtain ⟨k2, e2, _, w2⟩ := DataW.trod_int Tryz.underlying23 f2
    obtain ⟨s3, e3, _, w3⟩ := DataW.trod_string Tryz.underlying9 f3
    obtain ⟨A5, l5, p5, e5, h5, r5⟩ := read_texts Tryz.underlying25 f5
    have g0 : c0 = .int .i64 k0 := by have q : [c0] = [Value.int .i64 k0] := e0; injection q
    have g1 : c1 = .int .i64 k1 := by have q : [c1] = [Value.int .i64 k1] := e1; injection q
    have g2 : c2 = .int .u64 k2 := by have q : [c2] = [Value.int .u64 k2] := e2; injection q
    have g3 : c3 = .string s3 := by have q : [c3] = [Value.string s3] := e3; injection q
    have g5 : c5 = .slice A5 l5.length p5 := by have q : [c5] = [Value.slice A5 l5.length p5] := e5; injection q
    have b0 := wf_i64 w0
    have b1 := wf_i64 w1
    have b2 := wf_u64 w2
    obtain ⟨A4, l4, p4, g4, h4, r4, q4⟩ : ∃ (A : Option Addr) (l : List V) (c : Nat), c4 = .slice A l.length c ∧ l.length ≤ c ∧ Kd.C k27 w A l.length l ∧ ∀ z ∈ l, ∀ d, wideD d z := by
      rcases DataW.trod_slice Tryz.underlying24 f4 with ⟨e4, _⟩ | ⟨a, len, cap, elems, rest, n', rfl, e4, _, _, hlc, hcm, hel, hcells, _, _⟩
      · exact ⟨none, [], 0, by have q : [c4] = [Value.slice none 0 0] := e4; injection q, Nat.le_refl _, Kd.C_nil _ _, fun z hz => by cases hz⟩
      · rw [cells27] at hcells
        obtain ⟨ys, hyl, hC, hQ⟩ := C_read (d := k27) (Q := fun v => ∀ d, wideD d v) (w := w) (a := a) (n := len) (sz := 6) rfl (Nat.le_trans hlc hcm) (fun i hi => by
          have h1 := hcells i hi
          rw [List.getElem?_eq_getElem (by omega)] at h1
          obtain ⟨cc, hcc, ht1⟩ := Option.bind_eq_some_iff.1 h1
          obtain ⟨v, hk, hw⟩ := read_value n' cc _ ht1
          exact ⟨_, v, hcc, hk, hw⟩)
        subst hyl
        exact ⟨some a, ys, cap, by have q : [c4] = [Value.slice (some a) ys.length cap] := e4; injection q, hlc, hC, hQ⟩
    subst g0 g1 g2 g3 g4 g5
    refine ⟨⟨k0, k1, k2, s3, l4, l5⟩, k27_mk w ⟨k0, k1, k2, s3, l4, l5⟩ h4 r4 h5 r5, fun d => ?_⟩
    cases d with
    | zero => trivial
    | succ d => exact ⟨b0, b1, b2, fun z hz => q4 z hz d⟩
termination_by fuel => fuel

end
end Go.Proofs.YtdghnfmhcnlppaaGreatDoor.Values
