/- The document's Call in plain words, its first part: the names, the numbers of arguments, len, index. -/
import Derived.Test.YtoocfodefbechaaGreatDoorY1
import Derived.Test.YtoocfodefbechaaGreatDoorY2
import Derived.Test.YtoocfodefbechaaGreatDoorFns
namespace Go.Proofs.YtoocfodefbechaaGreatDoor.Fns
open Go.RowKit Go.Proofs.YtoocfodefbechaaGreatDoor.Q Go.Proofs.YtoocfodefbechaaGreatDoor.Real Go.Proofs.YtoocfodefbechaaGreatDoor.RealPure Go.Proofs.YtoocfodefbechaaGreatDoor.Values Go.Proofs.YtoocfodefbechaaGreatDoorW.PrintWords Go.Proofs.YtoocfodefbechaaGreatDoorW.PrintLast Go.Proofs.YtoocfodefbechaaGreatDoorW.PrintMore
set_option linter.unusedSimpArgs false
set_option linter.unusedVariables false
theorem rfn_f (nm : ByteArray) : stoleref13_Function.f nm = some (decide (fnNo nm < 8)) := by
  simp only [stoleref13_Function.f, fnNo]
  by_cases h0 : nm.toList = ([108, 101, 110] : List UInt8)
  · simp [h0]
  by_cases h1 : nm.toList = ([105, 110, 100, 101, 120] : List UInt8)
  · simp [h1]
  by_cases h2 : nm.toList = ([101, 113] : List UInt8)
  · simp [h2]
  by_cases h3 : nm.toList = ([108, 116] : List UInt8)
  · simp [h3]
  by_cases h4 : nm.toList = ([110, 111, 116] : List UInt8)
  · simp [h4]
  by_cases h5 : nm.toList = ([97, 110, 100] : List UInt8)
  · simp [h5]
  by_cases h6 : nm.toList = ([111, 114] : List UInt8)
  · simp [h6]
  by_cases h7 : nm.toList = ([99, 97, 116] : List UInt8)
  · simp [h7]
  simp [h0, h1, h2, h3, h4, h5, h6, h7]
theorem rcounts_f (nm : ByteArray) (n : Nat) (hf : fnNo nm < 8) : stoleref18_counts.f 5 nm (n : Int) = some (!countBad (knownR (fnNo nm)) n) := by
  simp only [stoleref18_counts.f, stoleref18_counts.j0, stoleref18_counts.j1]
  by_cases h0 : nm.toList = ([108, 101, 110] : List UInt8)
  · have e : fnNo nm = 0 := by simp [fnNo, h0]
    rw [e]
    have hb : (some ((n : Int) == 1) : Option Bool) = some (!countBad (1, 1, true) n) := by first | (congr 1; rw [Bool.eq_iff_iff]; simp [countBad] <;> omega) | (simp [countBad]; done) | (simp [countBad]; omega)
    simp only [h0]
    exact hb
  by_cases h1 : nm.toList = ([105, 110, 100, 101, 120] : List UInt8)
  · have e : fnNo nm = 1 := by simp [fnNo, h1]
    rw [e]
    have hb : (some ((n : Int) == 2) : Option Bool) = some (!countBad (2, 2, true) n) := by first | (congr 1; rw [Bool.eq_iff_iff]; simp [countBad] <;> omega) | (simp [countBad]; done) | (simp [countBad]; omega)
    simp only [h1]
    exact hb
  by_cases h2 : nm.toList = ([101, 113] : List UInt8)
  · have e : fnNo nm = 2 := by simp [fnNo, h2]
    rw [e]
    have hb : (some ((n : Int) == 2) : Option Bool) = some (!countBad (2, 2, true) n) := by first | (congr 1; rw [Bool.eq_iff_iff]; simp [countBad] <;> omega) | (simp [countBad]; done) | (simp [countBad]; omega)
    simp only [h2]
    exact hb
  by_cases h3 : nm.toList = ([108, 116] : List UInt8)
  · have e : fnNo nm = 3 := by simp [fnNo, h3]
    rw [e]
    have hb : (some ((n : Int) == 2) : Option Bool) = some (!countBad (2, 2, true) n) := by first | (congr 1; rw [Bool.eq_iff_iff]; simp [countBad] <;> omega) | (simp [countBad]; done) | (simp [countBad]; omega)
    simp only [h3]
    exact hb
  by_cases h4 : nm.toList = ([110, 111, 116] : List UInt8)
  · have e : fnNo nm = 4 := by simp [fnNo, h4]
    rw [e]
    have hb : (some ((n : Int) == 1) : Option Bool) = some (!countBad (1, 1, true) n) := by first | (congr 1; rw [Bool.eq_iff_iff]; simp [countBad] <;> omega) | (simp [countBad]; done) | (simp [countBad]; omega)
    simp only [h4]
    exact hb
  by_cases h5 : nm.toList = ([97, 110, 100] : List UInt8)
  · have e : fnNo nm = 5 := by simp [fnNo, h5]
    rw [e]
    have hb : (some (decide ((n : Int) ≥ 1)) : Option Bool) = some (!countBad (1, -1, true) n) := by first | (congr 1; rw [Bool.eq_iff_iff]; simp [countBad] <;> omega) | (simp [countBad]; done) | (simp [countBad]; omega)
    simp only [h5]
    exact hb
  by_cases h6 : nm.toList = ([111, 114] : List UInt8)
  · have e : fnNo nm = 6 := by simp [fnNo, h6]
    rw [e]
    have hb : (some (decide ((n : Int) ≥ 1)) : Option Bool) = some (!countBad (1, -1, true) n) := by first | (congr 1; rw [Bool.eq_iff_iff]; simp [countBad] <;> omega) | (simp [countBad]; done) | (simp [countBad]; omega)
    simp only [h6]
    exact hb
  by_cases h7 : nm.toList = ([99, 97, 116] : List UInt8)
  · have e : fnNo nm = 7 := by simp [fnNo, h7]
    rw [e]
    have hb : (some true : Option Bool) = some (!countBad (0, -1, true) n) := by first | (congr 1; rw [Bool.eq_iff_iff]; simp [countBad] <;> omega) | (simp [countBad]; done) | (simp [countBad]; omega)
    simp only [h7]
    exact hb
  simp [fnNo, h0, h1, h2, h3, h4, h5, h6, h7] at hf
def tupR (R : V × Int) : Int × Int × Int × ByteArray × List V × List ByteArray × Int := (R.1.f0, R.1.f1, R.1.f2, R.1.f3, R.1.f4, R.1.f5, R.2)
theorem rlength_f (x : V) : stoleref18_length.f x.f0 x.f1 x.f2 x.f3 x.f4 x.f5 = some (tupR (lengthR x)) := by
  unfold stoleref18_length.f lengthR
  by_cases h4 : x.f0 = 4
  · rw [if_pos h4, if_pos (show (x.f0 == 4) = true by simp [h4])]; rfl
  rw [if_neg h4, if_neg (show ¬ (x.f0 == 4) = true by simp [h4])]
  by_cases h5 : x.f0 = 5
  · rw [if_pos h5, if_pos (show (x.f0 == 5 || x.f0 == 6) = true by simp [h5])]; rfl
  rw [if_neg h5]
  by_cases h6 : x.f0 = 6
  · rw [if_pos h6, if_pos (show (x.f0 == 5 || x.f0 == 6) = true by simp [h6])]; rfl
  rw [if_neg h6, if_neg (show ¬ (x.f0 == 5 || x.f0 == 6) = true by simp [h5, h6])]; rfl
def pickF (x : V) (j : Int) : V × Int := if j < 0 then (z27, 1803) else (rd_T27 x.f4 j, 0)
theorem rindex_loop (x y : V) (hl : x.f5.length < 2199023255552) (hk : x.f5.length ≤ x.f4.length) : ∀ m i, i + m = x.f5.length →
    stoleref18_index.l0 (m + 1) (i : Int) x.f0 x.f1 x.f2 x.f3 x.f4 x.f5 y.f0 y.f1 y.f2 y.f3 y.f4 y.f5 = some (tupR (pickF x (keyI (x.f5.drop i) y.f3 i)))
  | 0, i, h => by
    unfold stoleref18_index.l0
    rw [if_neg (by omega), List.drop_of_length_le (by omega)]
    rfl
  | m + 1, i, h => by
    have ih := rindex_loop x y hl hk m (i + 1) (by omega)
    have e : x.f5.drop i = x.f5.getD i ByteArray.empty :: x.f5.drop (i + 1) := by
      rw [List.drop_eq_getElem_cons (by omega : i < x.f5.length)]
      congr 1
      simp [List.getD_eq_getElem?_getD, List.getElem?_eq_getElem (by omega : i < x.f5.length)]
    have e2 : wrap64 ((i : Int) + 1) = ((i + 1 : Nat) : Int) := by rw [Values.wrap_small _ (by omega) (by omega)]; rfl
    have e1 : rdOf ByteArray.empty x.f5 (i : Int) = x.f5.getD i ByteArray.empty := rfl
    unfold stoleref18_index.l0
    rw [if_pos (by omega), if_pos (by omega), e2, ih, e1, e]
    simp only [keyI]
    by_cases c : (x.f5.getD i ByteArray.empty).toList = y.f3.toList
    · rw [if_pos c, if_pos (by omega), if_pos c.symm]
      unfold pickF
      rw [if_neg (by omega)]
      rfl
    · rw [if_neg c, if_neg (fun q => c q.symm)]; rfl
theorem rindex_f (x y : V) (hl : x.f5.length < 2199023255552) (hk : x.f0 = 6 → x.f5.length ≤ x.f4.length) : ∃ k, stoleref18_index.f k x.f0 x.f1 x.f2 x.f3 x.f4 x.f5 y.f0 y.f1 y.f2 y.f3 y.f4 y.f5 = some (tupR (indexR x y)) := by
  refine ⟨x.f5.length + 1 + 1 + 1, ?_⟩
  have hj : ∀ b, stoleref18_index.j0 (x.f5.length + 1 + 1 + 1) b x.f0 x.f1 x.f2 x.f3 x.f4 x.f5 y.f0 y.f1 y.f2 y.f3 y.f4 y.f5 = if b = true then (if y.f1 < 0 then some (tupR (z27, 1803)) else if y.f1 ≥ (x.f4.length : Int) then some (tupR (z27, 1803)) else some (tupR (rd_T27 x.f4 y.f1, 0))) else if (x.f0 == 6 && y.f0 == 4) = true then some (tupR (pickF x (keyI x.f5 y.f3 0))) else some (tupR (z27, 1802)) := by
    intro b
    unfold stoleref18_index.j0
    cases b with
    | true =>
      show (if y.f1 < 0 then _ else _) = if y.f1 < 0 then _ else _
      by_cases c : y.f1 < 0
      · rw [if_pos c, if_pos c]; rfl
      · rw [if_neg c, if_neg c]
        by_cases c2 : y.f1 ≥ (x.f4.length : Int)
        · rw [if_pos c2, if_pos c2]; rfl
        · rw [if_neg c2, if_neg c2, if_pos (by omega), if_pos (by omega)]; rfl
    | false =>
      show (if x.f0 = 6 then _ else _) = _
      have hj1 : ∀ b, stoleref18_index.j1 (x.f5.length + 1 + 1) b x.f0 x.f1 x.f2 x.f3 x.f4 x.f5 y.f0 y.f1 y.f2 y.f3 y.f4 y.f5 = if b = true then stoleref18_index.l0 (x.f5.length + 1) 0 x.f0 x.f1 x.f2 x.f3 x.f4 x.f5 y.f0 y.f1 y.f2 y.f3 y.f4 y.f5 else some (tupR (z27, 1802)) := fun b => by unfold stoleref18_index.j1; rfl
      rw [hj1, hj1]
      by_cases c6 : x.f0 = 6
      · rw [if_pos c6, c6]
        show (if (y.f0 == 4) = true then _ else _) = if (true && (y.f0 == 4)) = true then _ else _
        rw [Bool.true_and]
        by_cases c4 : (y.f0 == 4) = true
        · rw [if_pos c4, if_pos c4]
          have h := rindex_loop x y hl (hk c6) x.f5.length 0 (by omega)
          rw [c6] at h
          exact h
        · rw [if_neg c4, if_neg c4]
      · have c6' : (x.f0 == 6) = false := beq_eq_false_iff_ne.2 c6
        rw [if_neg c6, c6', if_neg (by decide), Bool.false_and]
        rfl
  have hf : stoleref18_index.f (x.f5.length + 1 + 1 + 1) x.f0 x.f1 x.f2 x.f3 x.f4 x.f5 y.f0 y.f1 y.f2 y.f3 y.f4 y.f5 = stoleref18_index.j0 (x.f5.length + 1 + 1 + 1) (x.f0 == 5 && y.f0 == 2) x.f0 x.f1 x.f2 x.f3 x.f4 x.f5 y.f0 y.f1 y.f2 y.f3 y.f4 y.f5 := by
    unfold stoleref18_index.f
    by_cases c5 : x.f0 = 5
    · rw [if_pos c5, c5]; rfl
    · have c5' : (x.f0 == 5) = false := beq_eq_false_iff_ne.2 c5
      rw [if_neg c5, c5']; rfl
  rw [hf, hj]
  unfold indexR idxI
  by_cases c : (x.f0 == 5 && y.f0 == 2) = true
  · rw [if_pos c, if_pos c]
    show _ = some (tupR (if y.f1 < 0 ∨ (x.f4.length : Int) ≤ y.f1 then (z27, 1803) else (rd_T27 x.f4 y.f1, 0)))
    by_cases c1 : y.f1 < 0
    · rw [if_pos c1, if_pos (.inl c1)]
    · rw [if_neg c1]
      by_cases c2 : y.f1 ≥ (x.f4.length : Int)
      · rw [if_pos c2, if_pos (.inr c2)]
      · rw [if_neg c2, if_neg (fun q => q.elim c1 c2)]
  · rw [if_neg c, if_neg c]
    by_cases c2 : (x.f0 == 6 && y.f0 == 4) = true
    · rw [if_pos c2, if_pos c2]
      have hr := keyI_range x.f5 y.f3 0 (by omega)
      have h6 : x.f0 = 6 := by rw [Bool.and_eq_true] at c2; exact eq_of_beq c2.1
      have hk6 := hk h6
      show _ = some (tupR (if keyI x.f5 y.f3 0 < 0 ∨ (x.f4.length : Int) ≤ keyI x.f5 y.f3 0 then (z27, 1803) else (rd_T27 x.f4 (keyI x.f5 y.f3 0), 0)))
      unfold pickF
      by_cases c3 : keyI x.f5 y.f3 0 < 0
      · rw [if_pos c3, if_pos (.inl c3)]
      · rw [if_neg c3, if_neg (by omega)]
    · rw [if_neg c2, if_neg c2]
end Go.Proofs.YtoocfodefbechaaGreatDoor.Fns
