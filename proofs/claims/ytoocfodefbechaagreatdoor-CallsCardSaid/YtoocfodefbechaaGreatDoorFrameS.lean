/- The frame of a row whose arguments are values, with their sizes. -/
import Derived.Test.YtoocfodefbechaaGreatDoorFrame
import Derived.Test.YtoocfodefbechaaGreatDoorCopyV
import Derived.SizedLaws
namespace Go.Proofs.YtoocfodefbechaaGreatDoor.Values
open Go.RowKit Go.Proofs.YtoocfodefbechaaGreatDoor.Q Go.Proofs.YtoocfodefbechaaGreatDoor.Real Go.Proofs.YtoocfodefbechaaGreatDoor.RealPure Go.Proofs.YtoocfodefbechaaGreatDoorW.PrintWords Go.Proofs.YtoocfodefbechaaGreatDoorW.PrintLast Go.Proofs.YtoocfodefbechaaGreatDoorW.PrintMore
set_option linter.unusedSimpArgs false
set_option linter.unusedVariables false
section
variable {H : Type} {enc : TypeId × Value → H} {w : World} {sp : Nat → Bool} {held : Bool}
theorem bytes27 : Tryz.prog.bytesOf 27 = 88 := by kernel_rfl
theorem bytes9 : Tryz.prog.bytesOf 9 = 16 := by kernel_rfl
theorem mem_all {P : Program} {e : TypeId} : ∀ (l : List (DataW H)) (d : DataW H), d ∈ l → ∀ z ∈ d.weights P e, z ∈ DataW.weightsAll P e l
  | d0 :: l, d, hd, z, hz => by
    simp only [DataW.weightsAll, List.mem_append]
    rcases List.mem_cons.1 hd with rfl | hd
    · exact .inl hz
    · exact .inr (mem_all l d hd z hz)
  | [], d, hd, _, _ => by cases hd
theorem each27 (ds : List (DataW H)) {z : Nat} (h : z ∈ DataW.weightsEach Tryz.prog [3, 3, 25, 9, 22, 23] ds) : z ∈ (DataW.agg ds).weights Tryz.prog 27 := by
  simp only [DataW.weights, Tryz.underlying27]
  exact h
theorem slice23 (es rs : List (DataW H)) : (es.length + rs.length) * 88 ∈ (DataW.slice es rs).weights Tryz.prog 22 ∧ ∀ d ∈ es, ∀ z ∈ d.weights Tryz.prog 27, z ∈ (DataW.slice es rs).weights Tryz.prog 22 := by
  simp only [DataW.weights, Tryz.underlying22, bytes27]
  refine ⟨by simp, fun d hd z hz => ?_⟩
  simp only [List.mem_cons, List.mem_append]
  exact .inr (.inl (mem_all es d hd z hz))
set_option maxRecDepth 100000 in
theorem sized_texts {fuel : Nat} {cs : List Value} {x : DataW H × List MemPlace} (ht : Tryz.prog.underlying 23 = some (.slice 9)) (h : DataW.trod enc Tryz.prog w 0 sp held fuel 23 cs = some x) (hs : ∀ z ∈ x.1.weights Tryz.prog 23, z ≤ reachBytes) :
    ∃ A l c, cs = [.slice A l.length c] ∧ l.length ≤ c ∧ Kd.C Kd.string w A l.length l ∧ l.length < 8796093022208 := by
  obtain ⟨A, l, c, rfl, hc, hC⟩ := read_texts ht h
  refine ⟨A, l, c, rfl, hc, hC, ?_⟩
  rcases DataW.trod_slice ht h with ⟨e, _⟩ | ⟨a, len, cap, elems, rest, n, rfl, e, hx, _, hlc, hcm, hel, hcells, _, _⟩
  · have q : l.length = 0 := by injection e with e _; injection e
    omega
  · have q : l.length = len := by injection e with e _; injection e
    rw [hx] at hs
    have := hs ((elems.length + rest.length) * 16) (by simp only [DataW.weights, ht, bytes9]; simp)
    unfold reachBytes at this
    omega

set_option maxRecDepth 100000 in
theorem read_sized : ∀ (fuel : Nat) (cs : List Value) (x : DataW H × List MemPlace), DataW.trod enc Tryz.prog w 0 sp held fuel 27 cs = some x → (∀ z ∈ x.1.weights Tryz.prog 27, z ≤ reachBytes) → ∃ v : V, k27.K w v cs ∧ ∀ d, wideD d v ∧ szD d v
  | 0, cs, x, h, _ => by simp [DataW.trod] at h
  | n + 1, cs, x, h, hs => by
    obtain ⟨xs, m, hm, hx, hl, hxl, hf⟩ := DataW.trod_struct Tryz.underlying27 h
    obtain rfl : n = m := by omega
    rw [cells27] at hl
    obtain ⟨c0, c1, c2, c3, c4, c5, rfl⟩ : ∃ c0 c1 c2 c3 c4 c5, cs = [c0, c1, c2, c3, c4, c5] := by
      match cs, hl with
      | [c0, c1, c2, c3, c4, c5], _ => exact ⟨_, _, _, _, _, _, rfl⟩
    have hx6 : xs.length = 6 := hxl
    have hw4 : ∀ z ∈ (xs[4]'(by omega)).1.weights Tryz.prog 22, z ≤ reachBytes := by
      intro z hz
      refine hs z ?_
      rw [hx]
      exact each27 _ (DataW.weights_mem_each (j := 4) (t := 22) rfl (by rw [List.getElem?_map, List.getElem?_eq_getElem (by omega)]; rfl) z hz)
    have hw5 : ∀ z ∈ (xs[5]'(by omega)).1.weights Tryz.prog 23, z ≤ reachBytes := by
      intro z hz
      refine hs z ?_
      rw [hx]
      exact each27 _ (DataW.weights_mem_each (j := 5) (t := 23) rfl (by rw [List.getElem?_map, List.getElem?_eq_getElem (by omega)]; rfl) z hz)
    have f0 := hf 0 _ rfl
    have f1 := hf 1 _ rfl
    have f2 := hf 2 _ rfl
    have f3 := hf 3 _ rfl
    have f4 := hf 4 _ rfl
    have f5 := hf 5 _ rfl
    rw [List.getElem?_eq_getElem (by omega)] at f0 f1 f2 f3 f4 f5
    obtain ⟨k0, e0, _, w0⟩ := DataW.trod_int Tryz.underlying3 f0
    obtain ⟨k1, e1, _, w1⟩ := DataW.trod_int Tryz.underlying3 f1
    obtain ⟨k2, e2, _, w2⟩ := DataW.trod_int Tryz.underlying25 f2
    obtain ⟨s3, e3, _, w3⟩ := DataW.trod_string Tryz.underlying9 f3
    obtain ⟨A5, l5, p5, e5, h5, r5, z5⟩ := sized_texts Tryz.underlying23 f5 hw5
    have g0 : c0 = .int .i64 k0 := by have q : [c0] = [Value.int .i64 k0] := e0; injection q
    have g1 : c1 = .int .i64 k1 := by have q : [c1] = [Value.int .i64 k1] := e1; injection q
    have g2 : c2 = .int .u64 k2 := by have q : [c2] = [Value.int .u64 k2] := e2; injection q
    have g3 : c3 = .string s3 := by have q : [c3] = [Value.string s3] := e3; injection q
    have g5 : c5 = .slice A5 l5.length p5 := by have q : [c5] = [Value.slice A5 l5.length p5] := e5; injection q
    have b0 := wf_i64 w0
    have b1 := wf_i64 w1
    have b2 := wf_u64 w2
    obtain ⟨A4, l4, p4, g4, h4, r4, z4, q4⟩ : ∃ (A : Option Addr) (l : List V) (c : Nat), c4 = .slice A l.length c ∧ l.length ≤ c ∧ Kd.C k27 w A l.length l ∧ l.length < 1599289640401 ∧ ∀ z ∈ l, ∀ d, wideD d z ∧ szD d z := by
      rcases DataW.trod_slice Tryz.underlying22 f4 with ⟨e4, _⟩ | ⟨a, len, cap, elems, rest, n', rfl, e4, hx4, _, hlc, hcm, hel, hcells, _, _⟩
      · exact ⟨none, [], 0, by have q : [c4] = [Value.slice none 0 0] := e4; injection q, Nat.le_refl _, Kd.C_nil _ _, by simp, fun z hz => by cases hz⟩
      · rw [cells27] at hcells
        rw [hx4] at hw4
        have hsl := hw4 _ (slice23 _ _).1
        have hse := (slice23 (elems.map (·.1)) (rest.map (·.1))).2
        rw [List.length_map, List.length_map] at hsl
        obtain ⟨ys, hyl, hC, hQ⟩ := C_read (d := k27) (Q := fun v => ∀ d, wideD d v ∧ szD d v) (w := w) (a := a) (n := len) (sz := 6) rfl (Nat.le_trans hlc hcm) (fun i hi => by
          have h1 := hcells i hi
          rw [List.getElem?_eq_getElem (by omega)] at h1
          obtain ⟨cc, hcc, ht1⟩ := Option.bind_eq_some_iff.1 h1
          obtain ⟨v, hk, hw⟩ := read_sized n' cc _ ht1 (fun z hz => hw4 z (hse _ (List.mem_map.2 ⟨_, List.getElem_mem (by omega), rfl⟩) z hz))
          exact ⟨_, v, hcc, hk, hw⟩)
        subst hyl
        exact ⟨some a, ys, cap, by have q : [c4] = [Value.slice (some a) ys.length cap] := e4; injection q, hlc, hC, by unfold reachBytes at hsl; omega, hQ⟩
    subst g0 g1 g2 g3 g4 g5
    refine ⟨⟨k0, k1, k2, s3, l4, l5⟩, k27_mk w ⟨k0, k1, k2, s3, l4, l5⟩ h4 r4 h5 r5, fun d => ?_⟩
    cases d with
    | zero => exact ⟨trivial, trivial⟩
    | succ d => exact ⟨⟨b0, b1, b2, fun z hz => (q4 z hz d).1⟩, z4, z5, fun z hz => (q4 z hz d).2⟩
termination_by fuel => fuel

end
end Go.Proofs.YtoocfodefbechaaGreatDoor.Values
