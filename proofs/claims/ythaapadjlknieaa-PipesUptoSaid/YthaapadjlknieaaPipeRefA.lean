/- The document's answers about names, paths, arguments and pipes that may be: their printed definitions answer as the plain words say. -/
import Derived.Test.YthaapadjlknieaaPipeH
import Derived.Test.YthaapadjlknieaaQ12
namespace Go.Proofs.Ythaapadjlknieaa.Pipe
open Go.RowKit Go.Proofs.Ythaapadjlknieaa.Q Go.Proofs.YthaapadjlknieaaW.PrintWords Go.Proofs.YthaapadjlknieaaW.PrintLast Go.Proofs.YthaapadjlknieaaW.PrintMore
set_option linter.unusedSimpArgs false
set_option linter.unusedVariables false

def letterI (c : Int) : Bool := (decide (97 ≤ c) && decide (c ≤ 122)) || (decide (65 ≤ c) && decide (c ≤ 90))
theorem first_letter (c : Int) : firstI c = (c == 95 || letterI c) := by unfold firstI letterI; rw [Bool.or_assoc]
theorem rletter_f (c : Int) (h0 : 0 ≤ c) (h1 : c ≤ 255) : stoleref1_Letter.f c = some (letterI c) := by
  have hlow : stoleref1_Low.f c = some (if 65 ≤ c ∧ c ≤ 90 then c + 32 else c) := by
    unfold stoleref1_Low.f
    by_cases a : c ≥ 65
    · rw [if_pos a]
      by_cases b : c ≤ 90
      · rw [if_pos b, if_pos ⟨a, b⟩]; congr 1; omega
      · rw [if_neg b, if_neg (by omega)]
    · rw [if_neg a, if_neg (by omega)]
  unfold stoleref1_Letter.f letterI
  rw [hlow]
  simp only [Option.bind_some]
  by_cases a : 65 ≤ c ∧ c ≤ 90
  · rw [if_pos a, if_pos (by omega)]
    have x1 : decide (c + 32 ≤ 122) = true := decide_eq_true (by omega)
    have x2 : decide (65 ≤ c) = true := decide_eq_true a.1
    have x3 : decide (c ≤ 90) = true := decide_eq_true a.2
    rw [x1, x2, x3]; simp
  · rw [if_neg a]
    by_cases b : c ≥ 97
    · rw [if_pos b]
      have x2 : decide (97 ≤ c) = true := decide_eq_true b
      have x3 : decide (c ≤ 90) = false := decide_eq_false (by omega)
      rw [x2, x3]; simp
    · rw [if_neg b]
      have x2 : decide (97 ≤ c) = false := decide_eq_false b
      have x3 : (decide (65 ≤ c) && decide (c ≤ 90)) = false := by rw [Bool.and_eq_false_iff, decide_eq_false_iff_not, decide_eq_false_iff_not]; omega
      rw [x2, x3]; rfl
theorem rdigit_f (c : Int) : stoleref1_Digit.f c = some (decide (48 ≤ c) && decide (c ≤ 57)) := by
  unfold stoleref1_Digit.f
  by_cases a : c ≥ 48
  · rw [if_pos a]
    have x2 : decide (48 ≤ c) = true := decide_eq_true a
    rw [x2]; simp
  · rw [if_neg a]
    have x2 : decide (48 ≤ c) = false := decide_eq_false a
    rw [x2]; simp
theorem rname_j (s : ByteArray) (i : Int) (b : Bool) (k : Nat) : stoleref13_NameMay.j1 (k + 1) s i b = if b = true then some false else stoleref13_NameMay.l0 k s (wrap64 (i + 1)) := by
  simp [stoleref13_NameMay.j1]
theorem rname_loop (s : ByteArray) (hs : s.size ≤ 140737488355328) (hne : s.toList ≠ []) : ∀ (m i k : Nat), 1 ≤ i → i + m = s.size → 2 * m + 1 ≤ k → stoleref13_NameMay.l0 k s (i : Int) = some ((s.toList.drop i).all laterB && decide (s.size ≤ 32))
  | m, i, 0, _, _, h => by omega
  | 0, i, k + 1, h1, h, _ => by
    unfold stoleref13_NameMay.l0
    rw [if_neg (by omega), if_neg hne, List.drop_of_length_le (by rw [toList_length]; omega), List.all_nil, Bool.true_and]
    congr 1
    exact decide_eq_decide.2 (by omega)
  | m + 1, i, k + 1, h1, h, hk => by
    obtain ⟨k2, rfl⟩ : ∃ k2, k = k2 + 1 := ⟨k - 1, by omega⟩
    have ih := rname_loop s hs hne m (i + 1) k2 (by omega) (by omega) (by omega)
    have hi : i < s.size := by omega
    have hi' : i < s.toList.length := by rw [toList_length]; exact hi
    have e2 : wrap64 ((i : Int) + 1) = ((i + 1 : Nat) : Int) := by rw [wrap_small _ (by omega) (by omega)]; rfl
    unfold stoleref13_NameMay.l0
    rw [if_pos (by omega), if_pos (by omega), rletter_f _ (bt_range s i).1 (bt_range s i).2, Option.bind_some, rdigit_f, Option.bind_some, rname_j, rname_j, rname_j, e2, ih, List.drop_eq_getElem_cons hi', List.all_cons]
    have hb := bt_get s i hi hi'
    rw [if_neg (show ¬ ((i : Int) = 0) by omega)]
    show _ = some (laterI (s.toList[i].toNat : Int) && _ && _)
    rw [← hb]
    unfold laterI
    rw [first_letter]
    generalize bt s (i : Int) = c
    cases letterI c
    · by_cases h95 : c = 95
      · subst h95; simp
      · have e : (c == 95) = false := beq_eq_false_iff_ne.2 h95
        rw [e, if_neg (by decide), if_neg h95]
        cases (decide (48 ≤ c) && decide (c ≤ 57)) <;> simp
    · simp
theorem rname_f (s : ByteArray) (hs : s.size ≤ 140737488355328) : ∀ k, 2 * s.size + 3 ≤ k → stoleref13_NameMay.f k s = some (nameB s)
  | 0, h => by omega
  | k + 1, hk => by
    unfold stoleref13_NameMay.f nameB
    by_cases a : s.toList = []
    · have h0 : s.size = 0 := by rw [← toList_length, a]; rfl
      unfold stoleref13_NameMay.l0
      rw [if_neg (by omega), if_pos a, a]; rfl
    have hp : 0 < s.size := by rw [← toList_length]; exact List.length_pos_iff.2 a
    have h0 : 0 < s.toList.length := by rw [toList_length]; exact hp
    obtain ⟨k2, rfl⟩ : ∃ k2, k = k2 + 1 := ⟨k - 1, by omega⟩
    have hl := rname_loop s hs a (s.size - 1) 1 k2 (by omega) (by omega) (by omega)
    have e2 : wrap64 ((0 : Int) + 1) = ((1 : Nat) : Int) := by rw [wrap_small _ (by omega) (by omega)]; rfl
    unfold stoleref13_NameMay.l0
    rw [if_pos (by omega), if_pos (by omega), rletter_f _ (bt_range s 0).1 (bt_range s 0).2, Option.bind_some, rname_j, rname_j, e2, hl, if_pos rfl]
    have e : s.toList = s.toList[0] :: s.toList.drop 1 := by
      have := List.drop_eq_getElem_cons h0
      rw [List.drop_zero] at this
      exact this
    have hb := bt_get s 0 hp h0
    have hz0 : bt s ((0 : Nat) : Int) = bt s 0 := rfl
    rw [hz0] at hb
    have hn : nameL s.toList = (firstI (bt s 0) && (s.toList.drop 1).all laterB) := by
      conv => lhs; rw [e]
      show (firstI (s.toList[0].toNat : Int) && (s.toList.drop 1).all laterB) = _
      rw [← hb]
    rw [hn, first_letter, toList_length]
    generalize bt s 0 = c
    cases letterI c
    · by_cases h95 : c = 95
      · subst h95; simp [Bool.and_comm]
      · have e : (c == 95) = false := beq_eq_false_iff_ne.2 h95
        rw [e, if_neg (by decide), if_neg h95]
        simp
    · simp [Bool.and_comm]
theorem rpath0_le {l : List ByteArray} {i : Int} {k : Nat} {r} (h : stoleref13_pathMay.l0 k l i = some r) : ∀ m, stoleref13_pathMay.l0 (k + m) l i = some r
  | 0 => h
  | m + 1 => (stoleref13_pathMay.mono_l (k + m)) l i _ (rpath0_le h m)
theorem rname_le {s : ByteArray} {k : Nat} {r} (h : stoleref13_NameMay.f k s = some r) : ∀ m, stoleref13_NameMay.f (k + m) s = some r
  | 0 => h
  | m + 1 => stoleref13_NameMay.mono s (k + m) _ (rname_le h m)
theorem rpath_le {l : List ByteArray} {k : Nat} {r} (h : stoleref13_pathMay.f k l = some r) : ∀ m, stoleref13_pathMay.f (k + m) l = some r
  | 0 => h
  | m + 1 => stoleref13_pathMay.mono l (k + m) _ (rpath_le h m)
theorem rpath_loop (l : List ByteArray) (hl : l.length ≤ 8388608) (hs : ∀ s ∈ l, s.size ≤ 140737488355328) : ∀ m i, i + m = l.length → ∃ k, stoleref13_pathMay.l0 k l (i : Int) = some ((l.drop i).all nameB && decide (l.length ≤ 8))
  | 0, i, h => ⟨1, by
    unfold stoleref13_pathMay.l0
    rw [if_neg (by omega), List.drop_of_length_le (by omega), List.all_nil, Bool.true_and]
    congr 1
    exact decide_eq_decide.2 (by omega)⟩
  | m + 1, i, h => by
    obtain ⟨k, ih⟩ := rpath_loop l hl hs m (i + 1) (by omega)
    have e2 : wrap64 ((i : Int) + 1) = ((i + 1 : Nat) : Int) := by rw [wrap_small _ (by omega) (by omega)]; rfl
    have hd := drop_rd l i (by omega)
    have hm : rdOf ByteArray.empty l (i : Int) ∈ l := by
      have : rdOf ByteArray.empty l (i : Int) ∈ l.drop i := by rw [hd]; exact List.mem_cons_self
      exact List.mem_of_mem_drop this
    have hn := rname_f _ (hs _ hm) _ (Nat.le_refl _)
    refine ⟨(2 * (rdOf ByteArray.empty l (i : Int)).size + 3 + k) + 1, ?_⟩
    have h1 := rname_le hn k
    have h2 := rpath0_le ih (2 * (rdOf ByteArray.empty l (i : Int)).size + 3)
    rw [Nat.add_comm k] at h2
    unfold stoleref13_pathMay.l0
    rw [if_pos (by omega), if_pos (by omega), h1, Option.bind_some, e2, h2, hd, List.all_cons]
    cases nameB (rdOf ByteArray.empty l (i : Int)) <;> simp
theorem rpath_f (l : List ByteArray) (hl : l.length ≤ 8388608) (hs : ∀ s ∈ l, s.size ≤ 140737488355328) : ∃ k, stoleref13_pathMay.f k l = some (pathB l) := by
  obtain ⟨k, h⟩ := rpath_loop l hl hs l.length 0 (by omega)
  refine ⟨k, ?_⟩
  unfold stoleref13_pathMay.f pathB
  rw [Bool.and_comm]
  exact h
theorem rfn_f (s : ByteArray) (k : Nat) : stoleref13_Function.f (k + 40) s = some (fnB s) := by
  unfold fnB fnL
  unfold stoleref13_Function.f stoleref13_Function.j0 stoleref13_Function.j1 stoleref13_Function.j2 stoleref13_Function.j3 stoleref13_Function.j4 stoleref13_Function.j5 stoleref13_Function.j6
  generalize s.toList = l
  repeat' split
  all_goals simp_all
end Go.Proofs.Ythaapadjlknieaa.Pipe
