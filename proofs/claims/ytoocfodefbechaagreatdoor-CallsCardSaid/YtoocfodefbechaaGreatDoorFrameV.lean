/- The frame of a row whose argument is a row of values: what reads as data are rows that lie, within their sizes. -/
import Derived.Test.YtoocfodefbechaaGreatDoorFrameS
namespace Go.Proofs.YtoocfodefbechaaGreatDoor.Values
open Go.RowKit Go.Proofs.YtoocfodefbechaaGreatDoor.Q Go.Proofs.YtoocfodefbechaaGreatDoor.Real Go.Proofs.YtoocfodefbechaaGreatDoor.RealPure Go.Proofs.YtoocfodefbechaaGreatDoorW.PrintWords Go.Proofs.YtoocfodefbechaaGreatDoorW.PrintLast Go.Proofs.YtoocfodefbechaaGreatDoorW.PrintMore
set_option linter.unusedSimpArgs false
set_option linter.unusedVariables false
section
variable {H : Type} {enc : TypeId × Value → H} {w : World} {sp : Nat → Bool} {held : Bool}
theorem open_values_sized {v : Value} {d : DataW H} {ps : List MemPlace} (hv : v.cells.toList = [v]) (h : DataW.Trod enc Tryz.prog w 0 sp held 22 v d ps) (hs : ∀ z ∈ d.weights Tryz.prog 22, z ≤ reachBytes) :
    ∃ (A : Option Addr) (l : List V) (c : Nat), v = .slice A l.length c ∧ l.length ≤ c ∧ Kd.C k27 w A l.length l ∧ (∀ z ∈ l, ∀ d, wideD d z ∧ szD d z) ∧ l.length < 1599289640401 := by
  obtain ⟨fuel, h⟩ := h
  rw [hv] at h
  rcases DataW.trod_slice Tryz.underlying22 h with ⟨e4, _⟩ | ⟨a, len, cap, elems, rest, n', rfl, e4, hx4, _, hlc, hcm, hel, hcells, _, _⟩
  · exact ⟨none, [], 0, by injection e4, Nat.le_refl _, Kd.C_nil _ _, (fun z hz => by cases hz), by simp⟩
  · rw [cells27] at hcells
    have hx' : d = .slice (elems.map (·.1)) (rest.map (·.1)) := congrArg Prod.fst hx4
    rw [hx'] at hs
    have hsl := hs _ (slice23 _ _).1
    have hse := (slice23 (elems.map (·.1)) (rest.map (·.1))).2
    rw [List.length_map, List.length_map] at hsl
    obtain ⟨ys, hyl, hC, hQ⟩ := C_read (d := k27) (Q := fun v => ∀ d, wideD d v ∧ szD d v) (w := w) (a := a) (n := len) (sz := 6) rfl (Nat.le_trans hlc hcm) (fun i hi => by
      have h1 := hcells i hi
      rw [List.getElem?_eq_getElem (by omega)] at h1
      obtain ⟨cc, hcc, ht1⟩ := Option.bind_eq_some_iff.1 h1
      obtain ⟨v, hk, hw⟩ := read_sized n' cc _ ht1 (fun z hz => hs z (hse _ (List.mem_map.2 ⟨_, List.getElem_mem (by omega), rfl⟩) z hz))
      exact ⟨_, v, hcc, hk, hw⟩)
    subst hyl
    exact ⟨some a, ys, cap, by injection e4, hlc, hC, hQ, by unfold reachBytes at hsl; omega⟩
end
end Go.Proofs.YtoocfodefbechaaGreatDoor.Values
