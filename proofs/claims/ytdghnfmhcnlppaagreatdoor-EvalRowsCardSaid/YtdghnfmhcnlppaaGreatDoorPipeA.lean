/- Package pipe, walked: names, paths, whether a word may be. -/
import Derived.Test.YtdghnfmhcnlppaaGreatDoorPipePure
import Derived.WalkLawsBesides
import Derived.Deep.QuietTactic
import Derived.BigQuiet
import Derived.Laws.Cover1
import Derived.Lib.Hide
namespace Go.Proofs.YtdghnfmhcnlppaaGreatDoor.Pipe
open Go.RowKit Go.Proofs.YtdghnfmhcnlppaaGreatDoor.Q Go.Proofs.YtdghnfmhcnlppaaGreatDoorW.PrintWords Go.Proofs.YtdghnfmhcnlppaaGreatDoorW.PrintLast Go.Proofs.YtdghnfmhcnlppaaGreatDoorW.PrintMore
set_option linter.unusedSimpArgs false
set_option linter.unusedVariables false

theorem wrap_small (x : Int) (h0 : -9223372036854775808 ≤ x) (h1 : x ≤ 9223372036854775807) : wrap64 x = x := by
  unfold wrap64
  omega
/-! ### names -/
theorem lower_f (c : Int) (h0 : 0 ≤ c) (h1 : c ≤ 255) : utf_LowerByte.f c = some (if 65 ≤ c ∧ c ≤ 90 then c + 32 else c) := by
  unfold utf_LowerByte.f
  by_cases a : c ≥ 65
  · rw [if_pos a]
    by_cases b : c ≤ 90
    · rw [if_pos b, if_pos ⟨a, b⟩]; congr 1; omega
    · rw [if_neg b, if_neg (by omega)]
  · rw [if_neg a, if_neg (by omega)]
theorem first_f (c : Int) (h0 : 0 ≤ c) (h1 : c ≤ 255) : words_first.f c = some (firstI c) := by
  unfold words_first.f utf_Letter.f firstI
  rw [lower_f c h0 h1]
  by_cases e : c = 95
  · rw [if_pos e, e]; rfl
  rw [if_neg e]
  have e' : (c == 95) = false := beq_eq_false_iff_ne.2 e
  rw [e']
  simp only [Option.bind_some]
  by_cases a : 65 ≤ c ∧ c ≤ 90
  · rw [if_pos a, if_pos (by omega)]
    have x1 : decide (c + 32 ≤ 122) = true := decide_eq_true (by omega)
    have x2 : decide (65 ≤ c) = true := decide_eq_true a.1
    have x3 : decide (c ≤ 90) = true := decide_eq_true a.2
    rw [x1, x2, x3]; simp
  · rw [if_neg a]
    by_cases b : c ≥ 97
    · rw [if_pos b]
      have x2 : decide (97 ≤ c) = true := decide_eq_true b
      have x3 : decide (c ≤ 90) = false := decide_eq_false (by omega)
      rw [x2, x3]; simp
    · rw [if_neg b]
      have x2 : decide (97 ≤ c) = false := decide_eq_false b
      have x3 : (decide (65 ≤ c) && decide (c ≤ 90)) = false := by rw [Bool.and_eq_false_iff, decide_eq_false_iff_not, decide_eq_false_iff_not]; omega
      rw [x2, x3]; rfl
theorem later_f (c : Int) (h0 : 0 ≤ c) (h1 : c ≤ 255) : words_later.f c = some (laterI c) := by
  unfold words_later.f utf_Digit.f laterI
  rw [first_f c h0 h1]
  simp only [Option.bind_some]
  cases firstI c
  · by_cases a : c ≥ 48
    · rw [if_neg (by decide), if_pos a]
      have x2 : decide (48 ≤ c) = true := decide_eq_true a
      rw [x2]; simp
    · rw [if_neg (by decide), if_neg a]
      have x2 : decide (48 ≤ c) = false := decide_eq_false a
      rw [x2]; simp
  · rw [if_pos rfl]; rfl
theorem toList_length (s : ByteArray) : s.toList.length = s.size := by rw [ByteArray.toList_eq, data_length]
theorem bt_get (s : ByteArray) (i : Nat) (h : i < s.size) (h' : i < s.toList.length) : bt s (i : Int) = ((s.toList[i]'h').toNat : Int) := by
  unfold bt
  have h2 : (i : Int).toNat < s.size := by simpa using h
  rw [dif_pos h2]
  congr 2
  simp only [ByteArray.toList_eq]
  rfl
theorem name_loop (s : ByteArray) (hs : s.size ≤ 1000000) : ∀ (m i k : Nat), i + m = s.size → m < k → words_Name.l0 k s (s.size : Int) (i : Int) = some ((s.toList.drop i).all laterB)
  | m, i, 0, _, h => by omega
  | 0, i, k + 1, h, _ => by
    unfold words_Name.l0
    rw [if_neg (by omega), List.drop_of_length_le (by rw [toList_length]; omega)]
    rfl
  | m + 1, i, k + 1, h, hk => by
    have ih := name_loop s hs m (i + 1) k (by omega) (by omega)
    have hi : i < s.size := by omega
    have hi' : i < s.toList.length := by rw [toList_length]; exact hi
    have e2 : wrap64 ((i : Int) + 1) = ((i + 1 : Nat) : Int) := by rw [wrap_small _ (by omega) (by omega)]; rfl
    unfold words_Name.l0
    rw [if_pos (by omega), if_pos (by omega), if_pos (by omega), later_f _ (bt_range s i).1 (bt_range s i).2, e2, ih, Option.bind_some, List.drop_eq_getElem_cons hi', List.all_cons, bt_get s i hi hi']
    show (if laterI (s.toList[i].toNat : Int) = true then _ else _) = some (laterI (s.toList[i].toNat : Int) && _)
    cases laterI (s.toList[i].toNat : Int) <;> simp
theorem name_f (s : ByteArray) : words_Name.f 40 s = some (nameB s) := by
  unfold words_Name.f nameB
  have j1 : ∀ k, words_Name.j0 (k + 1) s true = some false := fun k => by simp [words_Name.j0]
  by_cases a : s.toList = []
  · rw [if_pos a, j1, a]; rfl
  rw [if_neg a]
  by_cases b : (s.size : Int) > 32
  · rw [if_pos b, j1]
    have : decide (s.toList.length ≤ 32) = false := decide_eq_false (by rw [toList_length]; omega)
    rw [this]; rfl
  have hp : 0 < s.size := by
    rw [← toList_length]
    exact List.length_pos_iff.2 a
  rw [if_neg b, if_pos (by omega), first_f _ (bt_range s 0).1 (bt_range s 0).2, Option.bind_some]
  have : decide (s.toList.length ≤ 32) = true := decide_eq_true (by rw [toList_length]; omega)
  rw [this, Bool.true_and]
  have h0 : 0 < s.toList.length := by rw [toList_length]; exact hp
  have e : s.toList = s.toList[0] :: s.toList.drop 1 := by
    have := List.drop_eq_getElem_cons h0
    rw [List.drop_zero] at this
    exact this
  have hn : nameL s.toList = (firstI (bt s 0) && (s.toList.drop 1).all laterB) := by
    conv => lhs; rw [e]
    have hb := bt_get s 0 hp h0
    show (firstI (s.toList[0].toNat : Int) && (s.toList.drop 1).all laterB) = _
    rw [← hb]; rfl
  rw [hn]
  cases hf : firstI (bt s 0)
  · rw [Bool.not_false, j1]; rfl
  · have hl := name_loop s (by omega) s.size 0 38 (by omega) (by omega)
    have hj : words_Name.j0 (39 + 1) s false = words_Name.l0 39 s (s.size : Int) 0 := by simp [words_Name.j0]
    have hl2 := name_loop s (by omega) s.size 0 39 (by omega) (by omega)
    rw [Bool.not_true, hj]
    have hz : ((0 : Nat) : Int) = 0 := rfl
    rw [hz] at hl2
    rw [hl2, List.drop_zero]
    conv => lhs; rw [e]
    have hb := bt_get s 0 hp h0
    have hz0 : bt s ((0 : Nat) : Int) = bt s 0 := rfl
    rw [hz0] at hb
    have hl0 : laterB s.toList[0] = true := by
      show laterI (s.toList[0].toNat : Int) = true
      rw [← hb]
      unfold laterI
      rw [hf]; rfl
    rw [List.all_cons, hl0]
theorem name_calls (s : ByteArray) (w : World) : Calls Tryz.prog 41 #[.string s] w fun e w' => e = .returned (.bool (nameB s)) ∧ Drawn0 w w' := words_Name.calls 40 s (nameB s) w (name_f s)
theorem fn_f (s : ByteArray) : pipe_Fn.f 40 s = some (fnB s) := by
  unfold fnB fnL
  unfold pipe_Fn.f pipe_Fn.j0 pipe_Fn.j1 pipe_Fn.j2 pipe_Fn.j3 pipe_Fn.j4 pipe_Fn.j5 pipe_Fn.j6
  generalize s.toList = l
  repeat' split
  all_goals simp_all
theorem fn_calls (s : ByteArray) (w : World) : Calls Tryz.prog 39 #[.string s] w fun e w' => e = .returned (.bool (fnB s)) ∧ Drawn0 w w' := pipe_Fn.calls 40 s (fnB s) w (fn_f s)
theorem int_f (i : Int) : value_Int.f i = some (intB i) := by
  unfold value_Int.f intB
  by_cases a : i ≥ -9007199254740991
  · rw [if_pos a]
    have : decide (-9007199254740991 ≤ i) = true := decide_eq_true a
    rw [this]; rfl
  · rw [if_neg a]
    have : decide (-9007199254740991 ≤ i) = false := decide_eq_false a
    rw [this]; rfl
theorem int_calls (i : Int) (w : World) : Calls Tryz.prog 71 #[.int .i64 i] w fun e w' => e = .returned (.bool (intB i)) ∧ Drawn0 w w' := value_Int.calls i (intB i) w (int_f i)
end Go.Proofs.YtdghnfmhcnlppaaGreatDoor.Pipe
