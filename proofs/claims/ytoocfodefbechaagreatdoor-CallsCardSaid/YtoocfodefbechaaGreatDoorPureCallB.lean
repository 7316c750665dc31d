/- The document's Call in plain words, its second part: and, or, cat. -/
import Derived.Test.YtoocfodefbechaaGreatDoorY3
import Derived.Test.YtoocfodefbechaaGreatDoorPureCallA
namespace Go.Proofs.YtoocfodefbechaaGreatDoor.Fns
open Go.RowKit Go.Proofs.YtoocfodefbechaaGreatDoor.Q Go.Proofs.YtoocfodefbechaaGreatDoor.Real Go.Proofs.YtoocfodefbechaaGreatDoor.RealPure Go.Proofs.YtoocfodefbechaaGreatDoor.Values Go.Proofs.YtoocfodefbechaaGreatDoorW.PrintWords Go.Proofs.YtoocfodefbechaaGreatDoorW.PrintLast Go.Proofs.YtoocfodefbechaaGreatDoorW.PrintMore
set_option linter.unusedSimpArgs false
set_option linter.unusedVariables false
def fldV (x : V) : Int × Int × Int × ByteArray × List V × List ByteArray := (x.f0, x.f1, x.f2, x.f3, x.f4, x.f5)
theorem rtrue_f (x : V) (hm : mayB x = true) (h0 : 0 ≤ x.f2) (h1 : x.f2 < 2 ^ 64) : stoleref1_True.f x.f0 x.f1 x.f2 x.f3 x.f4 x.f5 = some (truthB x) := by
  unfold stoleref1_True.f
  rw [if_pos ⟨h0, h1⟩]
  show some (mayB x && truthB x) = _
  rw [hm, Bool.true_and]
theorem rtext_f (x : V) (hm : mayB x = true) (h0 : 0 ≤ x.f2) (h1 : x.f2 < 2 ^ 64) : stoleref1_Text.f x.f0 x.f1 x.f2 x.f3 x.f4 x.f5 = some (saidS x, saidE x) := by
  unfold stoleref1_Text.f
  rw [if_pos ⟨h0, h1⟩]
  show some (if mayB x = true then saidS x else ⟨#[]⟩, if mayB x = true then saidE x else 400) = _
  rw [if_pos hm, if_pos hm]
theorem rd_in (xs : List V) (i : Nat) (hi : i < xs.length) : rd_T27 xs (i : Int) ∈ xs := by
  have e : xs.drop i = rd_T27 xs (i : Int) :: xs.drop (i + 1) := by
    rw [List.drop_eq_getElem_cons hi]
    congr 1
    unfold rd_T27
    simp [hi]
  have : rd_T27 xs (i : Int) ∈ xs.drop i := by rw [e]; exact List.mem_cons_self
  exact List.mem_of_mem_drop this
theorem rpick_loop (xs : List V) (b : Bool) (hx : ∀ z ∈ xs, mayB z = true ∧ 0 ≤ z.f2 ∧ z.f2 < 2 ^ 64) (hl : xs.length < 2199023255552) : ∀ m i, i + m + 1 = xs.length →
    stoleref18_pick.l0 (m + 1) xs b (i : Int) = some (fldV (pickL b (xs.drop i) (rd_T27 xs ((xs.length : Int) - 1))))
  | 0, i, h => by
    have e1 : wrap64 ((i : Int) + 1) = (i : Int) + 1 := Values.wrap_small _ (by omega) (by omega)
    have e2 : wrap64 ((xs.length : Int) - 1) = (xs.length : Int) - 1 := Values.wrap_small _ (by omega) (by omega)
    have ei : (xs.length : Int) - 1 = (i : Int) := by omega
    unfold stoleref18_pick.l0
    rw [e1, e2, if_neg (by omega), if_pos (by omega), if_pos (by omega), ei, pickL_drop b _ xs i (by omega), List.drop_of_length_le (by omega)]
    show _ = some (fldV (if (truthB (rd_T27 xs (i : Int)) == b) = true then rd_T27 xs (i : Int) else rd_T27 xs (i : Int)))
    split <;> rfl
  | m + 1, i, h => by
    have ih := rpick_loop xs b hx hl m (i + 1) (by omega)
    have e1 : wrap64 ((i : Int) + 1) = ((i + 1 : Nat) : Int) := by rw [Values.wrap_small _ (by omega) (by omega)]; rfl
    obtain ⟨g1, g2, g3⟩ := hx _ (rd_in xs i (by omega))
    unfold stoleref18_pick.l0
    rw [e1, if_pos (by omega), if_pos (by omega), if_pos (by omega), rtrue_f _ g1 g2 g3, Option.bind_some, ih, pickL_drop b _ xs i (by omega)]
    by_cases c : (truthB (rd_T27 xs (i : Int)) == b) = true
    · rw [if_pos c, if_pos c]; rfl
    · rw [if_neg c, if_neg c]
theorem rpick_f (xs : List V) (b : Bool) (hx : ∀ z ∈ xs, mayB z = true ∧ 0 ≤ z.f2 ∧ z.f2 < 2 ^ 64) (hl : xs.length < 2199023255552) (h1 : 1 ≤ xs.length) : ∃ k, stoleref18_pick.f k xs b = some (fldV (pickR xs b)) := by
  refine ⟨xs.length - 1 + 1, ?_⟩
  unfold stoleref18_pick.f pickR
  have h := rpick_loop xs b hx hl (xs.length - 1) 0 (by omega)
  exact h
theorem rcat_loop (xs : List V) (hx : ∀ z ∈ xs, mayB z = true ∧ 0 ≤ z.f2 ∧ z.f2 < 2 ^ 64) (hl : xs.length < 2199023255552) : ∀ m i (out : ByteArray) (lg : Bool), i + m = xs.length → out.size ≤ 65536 →
    stoleref18_cat.l0 (m + 1) xs out lg (i : Int) = some (tupR (catL (xs.drop i) out.data.toList lg))
  | 0, i, out, lg, h, ho => by
    unfold stoleref18_cat.l0
    rw [if_neg (by omega), List.drop_of_length_le (by omega)]
    unfold catL
    cases lg with
    | true => rfl
    | false =>
      show some (4, 0, 0, out, ([] : List V), ([] : List ByteArray), 0) = some (tupR (textV ⟨out.data.toList.toArray⟩, 0))
      have e : (⟨out.data.toList.toArray⟩ : ByteArray) = out := by cases out; simp
      rw [e]; rfl
  | m + 1, i, out, lg, h, ho => by
    have e1 : wrap64 ((i : Int) + 1) = ((i + 1 : Nat) : Int) := by rw [Values.wrap_small _ (by omega) (by omega)]; rfl
    have e2 : wrap64 (65536 - (out.size : Int)) = 65536 - (out.size : Int) := Values.wrap_small _ (by omega) (by omega)
    have e3 : (out.data.toList.length : Int) = (out.size : Int) := by rw [Array.length_toList]; rfl
    obtain ⟨g1, g2, g3⟩ := hx _ (rd_in xs i (by omega))
    unfold stoleref18_cat.l0
    rw [if_pos (by omega), if_pos (by omega), rtext_f _ g1 g2 g3, Option.bind_some, e1, e2, catL_drop _ lg xs i (by omega), e3]
    show (if saidE (rd_T27 xs (i : Int)) = 0 then _ else _) = _
    by_cases c : saidE (rd_T27 xs (i : Int)) = 0
    · rw [if_pos c, if_pos c]
      cases lg with
      | true =>
        have ih := rcat_loop xs hx hl m (i + 1) out true (by omega) ho
        rw [if_pos rfl, Bool.true_or, if_pos rfl]
        exact ih
      | false =>
        rw [if_neg (by decide), Bool.false_or]
        show (if (((saidS (rd_T27 xs (i : Int))).size : Int) > 65536 - (out.size : Int)) then _ else _) = _
        by_cases c2 : ((saidS (rd_T27 xs (i : Int))).size : Int) > 65536 - (out.size : Int)
        · have ih := rcat_loop xs hx hl m (i + 1) out true (by omega) ho
          have hd : decide (((saidS (rd_T27 xs (i : Int))).size : Int) > 65536 - (out.size : Int)) = true := decide_eq_true c2
          have hd2 : decide (65536 < ((out.size : Int) + ((saidS (rd_T27 xs (i : Int))).size : Int))) = true := decide_eq_true (by omega)
          rw [if_pos c2, hd2, if_pos rfl]
          show stoleref18_cat.l0 (m + 1) xs out (decide (((saidS (rd_T27 xs (i : Int))).size : Int) > 65536 - (out.size : Int))) ((i + 1 : Nat) : Int) = _
          rw [hd]
          exact ih
        · have hs : (out ++ saidS (rd_T27 xs (i : Int))).size = out.size + (saidS (rd_T27 xs (i : Int))).size := ByteArray.size_append ..
          have ih := rcat_loop xs hx hl m (i + 1) (out ++ saidS (rd_T27 xs (i : Int))) false (by omega) (by rw [hs]; omega)
          have hd : decide (((saidS (rd_T27 xs (i : Int))).size : Int) > 65536 - (out.size : Int)) = false := decide_eq_false c2
          have hd2 : decide (65536 < ((out.size : Int) + ((saidS (rd_T27 xs (i : Int))).size : Int))) = false := decide_eq_false (by omega)
          have hda : (out ++ saidS (rd_T27 xs (i : Int))).data.toList = out.data.toList ++ (saidS (rd_T27 xs (i : Int))).data.toList := by simp
          rw [hda] at ih
          rw [if_neg c2, hd2]
          show (if out.size + (saidS (rd_T27 xs (i : Int))).size ≤ 9223372036854775807 then _ else _) = _
          rw [if_pos (by omega)]
          show stoleref18_cat.l0 (m + 1) xs (out ++ saidS (rd_T27 xs (i : Int))) (decide (((saidS (rd_T27 xs (i : Int))).size : Int) > 65536 - (out.size : Int))) ((i + 1 : Nat) : Int) = _
          rw [hd]
          exact ih
    · rw [if_neg c, if_neg c]; rfl
theorem rcat_f (xs : List V) (hx : ∀ z ∈ xs, mayB z = true ∧ 0 ≤ z.f2 ∧ z.f2 < 2 ^ 64) (hl : xs.length < 2199023255552) : ∃ k, stoleref18_cat.f k xs = some (tupR (catR xs)) := by
  refine ⟨xs.length + 1, ?_⟩
  unfold stoleref18_cat.f catR
  exact rcat_loop xs hx hl xs.length 0 ⟨#[]⟩ false (by omega) (by decide)
end Go.Proofs.YtoocfodefbechaaGreatDoor.Fns
