/- The frame of a row whose arguments are values: what reads as data is a tree whose rows lie. -/
import Derived.Test.YtoocfodefbechaaGreatDoorValues
import Derived.ChangeArms
import Derived.DataElems
import Derived.Carry
namespace Go.Proofs.YtoocfodefbechaaGreatDoor.Values
open Go.RowKit Go.Proofs.YtoocfodefbechaaGreatDoor.Q Go.Proofs.YtoocfodefbechaaGreatDoor.Real Go.Proofs.YtoocfodefbechaaGreatDoor.RealPure Go.Proofs.YtoocfodefbechaaGreatDoorW.PrintWords Go.Proofs.YtoocfodefbechaaGreatDoorW.PrintLast Go.Proofs.YtoocfodefbechaaGreatDoorW.PrintMore
set_option linter.unusedSimpArgs false
set_option linter.unusedVariables false

theorem list_of {α : Type} (P : Nat → α → Prop) : ∀ n, (∀ i, i < n → ∃ v, P i v) → ∃ l : List α, l.length = n ∧ ∀ i v, l[i]? = some v → P i v
  | 0, _ => ⟨[], rfl, fun i v h => by simp at h⟩
  | n + 1, h => by
    obtain ⟨l, hl, hp⟩ := list_of P n (fun i hi => h i (by omega))
    obtain ⟨v, hv⟩ := h n (by omega)
    refine ⟨l ++ [v], by simp [hl], fun i u hu => ?_⟩
    by_cases c : i < n
    · rw [List.getElem?_append_left (by omega)] at hu
      exact hp i u hu
    · have hi : i < (l ++ [v]).length := (List.getElem?_eq_some_iff.1 hu).1
      rw [List.length_append, List.length_singleton] at hi
      have hin : i = n := by omega
      subst hin
      rw [List.getElem?_append_right (by omega), hl, Nat.sub_self] at hu
      obtain rfl : v = u := Option.some.inj hu
      exact hv

theorem C_read {α : Type} {d : Kd α} {Q : α → Prop} {w : World} {a : Addr} {n sz : Nat} (hsz : d.sz = sz) (hn : n ≤ maxLen)
    (h : ∀ i, i < n → ∃ cs v, w.cells? 0 (a.add (i * sz)) sz = some cs ∧ d.K w v cs ∧ Q v) :
    ∃ xs : List α, xs.length = n ∧ Kd.C d w (some a) n xs ∧ ∀ v ∈ xs, Q v := by
  subst hsz
  obtain ⟨xs, hl, hp⟩ := list_of (fun i v => ∃ cs, w.cells? 0 (a.add (i * d.sz)) d.sz = some cs ∧ d.K w v cs ∧ Q v) n (fun i hi => by
    obtain ⟨cs, v, h1, h2, h3⟩ := h i hi
    exact ⟨v, cs, h1, h2, h3⟩)
  refine ⟨xs, hl, ⟨hl, hn, fun _ => ⟨a, rfl, fun j p hj => ?_⟩⟩, fun v hv => ?_⟩
  · obtain ⟨cs, h1, h2, _⟩ := hp j p hj
    obtain ⟨_, hlen, hc⟩ := World.cells?_some h1
    refine ⟨cs, hlen, h2, fun i u hu => ?_⟩
    have hi := (List.getElem?_eq_some_iff.1 hu).1
    rw [← Addr.add_add, hc i (by omega)]
    exact hu
  · obtain ⟨j, hj, rfl⟩ := List.getElem_of_mem hv
    obtain ⟨cs, _, _, h3⟩ := hp j _ (List.getElem?_eq_getElem hj)
    exact h3

theorem cells9 : Tryz.prog.cellsOf 9 = 1 := by kernel_rfl
theorem cells27 : Tryz.prog.cellsOf 27 = 6 := by kernel_rfl
def wideD : Nat → V → Prop
  | 0, _ => True
  | d + 1, x => (-9223372036854775808 ≤ x.f0 ∧ x.f0 ≤ 9223372036854775807) ∧ (-9223372036854775808 ≤ x.f1 ∧ x.f1 ≤ 9223372036854775807) ∧ (0 ≤ x.f2 ∧ x.f2 < 2 ^ 64) ∧ ∀ z ∈ x.f4, wideD d z
theorem wf_i64 {k : Int} (h : (Lit.int .i64 k).wf = true) : -9223372036854775808 ≤ k ∧ k ≤ 9223372036854775807 := by
  have h1 : (decide (IntKind.i64.min ≤ k) && decide (k ≤ IntKind.i64.max)) = true := h
  have e1 : IntKind.i64.min = -9223372036854775808 := by decide
  have e2 : IntKind.i64.max = 9223372036854775807 := by decide
  rw [e1, e2] at h1
  simpa using h1
theorem wf_u64 {k : Int} (h : (Lit.int .u64 k).wf = true) : 0 ≤ k ∧ k < 2 ^ 64 := by
  have h1 : (decide (IntKind.u64.min ≤ k) && decide (k ≤ IntKind.u64.max)) = true := h
  have e1 : IntKind.u64.min = 0 := by decide
  have e2 : IntKind.u64.max = 18446744073709551615 := by decide
  rw [e1, e2] at h1
  simp only [Bool.and_eq_true, decide_eq_true_eq] at h1
  omega
theorem rng_of_wide : ∀ d x, wideD d x → rngD d x
  | 0, _, _ => trivial
  | d + 1, x, h => ⟨h.2.2.1.1, h.2.2.1.2, fun z hz => rng_of_wide d z (h.2.2.2 z hz)⟩

section
variable {H : Type} {enc : TypeId × Value → H} {w : World} {sp : Nat → Bool} {held : Bool}

theorem read_texts {fuel : Nat} {cs : List Value} {x : DataW H × List MemPlace} {t : TypeId} (ht : Tryz.prog.underlying t = some (.slice 9)) (h : DataW.trod enc Tryz.prog w 0 sp held fuel t cs = some x) :
    ∃ A l c, cs = [.slice A l.length c] ∧ l.length ≤ c ∧ Kd.C Kd.string w A l.length l := by
  rcases DataW.trod_slice ht h with ⟨rfl, _⟩ | ⟨a, len, cap, elems, rest, n, rfl, rfl, _, _, hlc, hcm, hel, hcells, _, _⟩
  · exact ⟨none, [], 0, rfl, Nat.le_refl _, Kd.C_nil _ _⟩
  · rw [cells9] at hcells
    obtain ⟨xs, hl, hC, _⟩ := C_read (d := Kd.string) (Q := fun _ => True) (w := w) (a := a) (n := len) (sz := 1) rfl (Nat.le_trans hlc hcm) (fun i hi => by
      have h1 := hcells i hi
      rw [List.getElem?_eq_getElem (by omega)] at h1
      obtain ⟨c1, hc1, ht1⟩ := Option.bind_eq_some_iff.1 h1
      obtain ⟨s, rfl, _, _⟩ := DataW.trod_string Tryz.underlying9 ht1
      exact ⟨_, s, hc1, rfl, trivial⟩)
    subst hl
    exact ⟨some a, xs, cap, rfl, hlc, hC⟩

end
end Go.Proofs.YtoocfodefbechaaGreatDoor.Values
