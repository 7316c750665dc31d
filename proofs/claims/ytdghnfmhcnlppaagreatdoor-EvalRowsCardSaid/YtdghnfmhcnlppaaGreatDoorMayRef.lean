/- The document's answers about names, paths, arguments and pipes that may be: their printed definitions answer as the plain words say. -/
import Derived.Test.YtdghnfmhcnlppaaGreatDoorPipeH
import Derived.Test.YtdghnfmhcnlppaaGreatDoorT4
namespace Go.Proofs.YtdghnfmhcnlppaaGreatDoor.Pipe
open Go.RowKit Go.Proofs.YtdghnfmhcnlppaaGreatDoor.Q Go.Proofs.YtdghnfmhcnlppaaGreatDoorW.PrintWords Go.Proofs.YtdghnfmhcnlppaaGreatDoorW.PrintLast Go.Proofs.YtdghnfmhcnlppaaGreatDoorW.PrintMore
set_option linter.unusedSimpArgs false
set_option linter.unusedVariables false

def letterI (c : Int) : Bool := (decide (97 ≤ c) && decide (c ≤ 122)) || (decide (65 ≤ c) && decide (c ≤ 90))
theorem first_letter (c : Int) : firstI c = (c == 95 || letterI c) := by unfold firstI letterI; rw [Bool.or_assoc]
theorem rletter_f (c : Int) (h0 : 0 ≤ c) (h1 : c ≤ 255) : stoleref1_Letter.f c = some (letterI c) := by
  have hlow : stoleref1_Low.f c = some (if 65 ≤ c ∧ c ≤ 90 then c + 32 else c) := by
    unfold stoleref1_Low.f
    by_cases a : c ≥ 65
    · rw [if_pos a]
      by_cases b : c ≤ 90
      · rw [if_pos b, if_pos ⟨a, b⟩]; congr 1; omega
      · rw [if_neg b, if_neg (by omega)]
    · rw [if_neg a, if_neg (by omega)]
  unfold stoleref1_Letter.f letterI
  rw [hlow]
  simp only [Option.bind_some]
  by_cases a : 65 ≤ c ∧ c ≤ 90
  · rw [if_pos a, if_pos (by omega)]
    have x1 : decide (c + 32 ≤ 122) = true := decide_eq_true (by omega)
    have x2 : decide (65 ≤ c) = true := decide_eq_true a.1
    have x3 : decide (c ≤ 90) = true := decide_eq_true a.2
    rw [x1, x2, x3]; simp
  · rw [if_neg a]
    by_cases b : c ≥ 97
    · rw [if_pos b]
      have x2 : decide (97 ≤ c) = true := decide_eq_true b
      have x3 : decide (c ≤ 90) = false := decide_eq_false (by omega)
      rw [x2, x3]; simp
    · rw [if_neg b]
      have x2 : decide (97 ≤ c) = false := decide_eq_false b
      have x3 : (decide (65 ≤ c) && decide (c ≤ 90)) = false := by rw [Bool.and_eq_false_iff, decide_eq_false_iff_not, decide_eq_false_iff_not]; omega
      rw [x2, x3]; rfl
theorem rdigit_f (c : Int) : stoleref1_Digit.f c = some (decide (48 ≤ c) && decide (c ≤ 57)) := by
  unfold stoleref1_Digit.f
  by_cases a : c ≥ 48
  · rw [if_pos a]
    have x2 : decide (48 ≤ c) = true := decide_eq_true a
    rw [x2]; simp
  · rw [if_neg a]
    have x2 : decide (48 ≤ c) = false := decide_eq_false a
    rw [x2]; simp
theorem rname_j (s : ByteArray) (i : Int) (b : Bool) (k : Nat) : stoleref13_NameMay.j1 (k + 1) s i b = if b = true then some false else stoleref13_NameMay.l0 k s (wrap64 (i + 1)) := by
  simp [stoleref13_NameMay.j1]
theorem rname_loop (s : ByteArray) (hs : s.size ≤ 140737488355328) (hne : s.toList ≠ []) : ∀ (m i k : Nat), 1 ≤ i → i + m = s.size → 2 * m + 1 ≤ k → stoleref13_NameMay.l0 k s (i : Int) = some ((s.toList.drop i).all laterB && decide (s.size ≤ 32))
  | m, i, 0, _, _, h => by omega
  | 0, i, k + 1, h1, h, _ => by
    unfold stoleref13_NameMay.l0
    rw [if_neg (by omega), if_neg hne, List.drop_of_length_le (by rw [toList_length]; omega), List.all_nil, Bool.true_and]
    congr 1
    exact decide_eq_decide.2 (by omega)
  | m + 1, i, k + 1, h1, h, hk => by
    obtain ⟨k2, rfl⟩ : ∃ k2, k = k2 + 1 := ⟨k - 1, by omega⟩
    have ih := rname_loop s hs hne m (i + 1) k2 (by omega) (by omega) (by omega)
    have hi : i < s.size := by omega
    have hi' : i < s.toList.length := by rw [toList_length]; exact hi
    have e2 : wrap64 ((i : Int) + 1) = ((i + 1 : Nat) : Int) := by rw [wrap_small _ (by omega) (by omega)]; rfl
    unfold stoleref13_NameMay.l0
    rw [if_pos (by omega), if_pos (by omega), rletter_f _ (bt_range s i).1 (bt_range s i).2, Option.bind_some, rdigit_f, Option.bind_some, rname_j, rname_j, rname_j, e2, ih, List.drop_eq_getElem_cons hi', List.all_cons]
    have hb := bt_get s i hi hi'
    rw [if_neg (show ¬ ((i : Int) = 0) by omega)]
    show _ = some (laterI (s.toList[i].toNat : Int) && _ && _)
    rw [← hb]
    unfold laterI
    rw [first_letter]
    generalize bt s (i : Int) = c
    cases letterI c
    · by_cases h95 : c = 95
      · subst h95; simp
      · have e : (c == 95) = false := beq_eq_false_iff_ne.2 h95
        rw [e, if_neg (by decide), if_neg h95]
        cases (decide (48 ≤ c) && decide (c ≤ 57)) <;> simp
    · simp
theorem rname_f (s : ByteArray) (hs : s.size ≤ 140737488355328) : ∀ k, 2 * s.size + 3 ≤ k → stoleref13_NameMay.f k s = some (nameB s)
  | 0, h => by omega
  | k + 1, hk => by
    unfold stoleref13_NameMay.f nameB
    by_cases a : s.toList = []
    · have h0 : s.size = 0 := by rw [← toList_length, a]; rfl
      unfold stoleref13_NameMay.l0
      rw [if_neg (by omega), if_pos a, a]; rfl
    have hp : 0 < s.size := by rw [← toList_length]; exact List.length_pos_iff.2 a
    have h0 : 0 < s.toList.length := by rw [toList_length]; exact hp
    obtain ⟨k2, rfl⟩ : ∃ k2, k = k2 + 1 := ⟨k - 1, by omega⟩
    have hl := rname_loop s hs a (s.size - 1) 1 k2 (by omega) (by omega) (by omega)
    have e2 : wrap64 ((0 : Int) + 1) = ((1 : Nat) : Int) := by rw [wrap_small _ (by omega) (by omega)]; rfl
    unfold stoleref13_NameMay.l0
    rw [if_pos (by omega), if_pos (by omega), rletter_f _ (bt_range s 0).1 (bt_range s 0).2, Option.bind_some, rname_j, rname_j, e2, hl, if_pos rfl]
    have e : s.toList = s.toList[0] :: s.toList.drop 1 := by
      have := List.drop_eq_getElem_cons h0
      rw [List.drop_zero] at this
      exact this
    have hb := bt_get s 0 hp h0
    have hz0 : bt s ((0 : Nat) : Int) = bt s 0 := rfl
    rw [hz0] at hb
    have hn : nameL s.toList = (firstI (bt s 0) && (s.toList.drop 1).all laterB) := by
      conv => lhs; rw [e]
      show (firstI (s.toList[0].toNat : Int) && (s.toList.drop 1).all laterB) = _
      rw [← hb]
    rw [hn, first_letter, toList_length]
    generalize bt s 0 = c
    cases letterI c
    · by_cases h95 : c = 95
      · subst h95; simp [Bool.and_comm]
      · have e : (c == 95) = false := beq_eq_false_iff_ne.2 h95
        rw [e, if_neg (by decide), if_neg h95]
        simp
    · simp [Bool.and_comm]
theorem rpath0_le {l : List ByteArray} {i : Int} {k : Nat} {r} (h : stoleref13_pathMay.l0 k l i = some r) : ∀ m, stoleref13_pathMay.l0 (k + m) l i = some r
  | 0 => h
  | m + 1 => (stoleref13_pathMay.mono_l (k + m)) l i _ (rpath0_le h m)
theorem rname_le {s : ByteArray} {k : Nat} {r} (h : stoleref13_NameMay.f k s = some r) : ∀ m, stoleref13_NameMay.f (k + m) s = some r
  | 0 => h
  | m + 1 => stoleref13_NameMay.mono s (k + m) _ (rname_le h m)
theorem rpath_le {l : List ByteArray} {k : Nat} {r} (h : stoleref13_pathMay.f k l = some r) : ∀ m, stoleref13_pathMay.f (k + m) l = some r
  | 0 => h
  | m + 1 => stoleref13_pathMay.mono l (k + m) _ (rpath_le h m)
theorem rpath_loop (l : List ByteArray) (hl : l.length ≤ 8796093022208) (hs : ∀ s ∈ l, s.size ≤ 140737488355328) : ∀ m i, i + m = l.length → ∃ k, stoleref13_pathMay.l0 k l (i : Int) = some ((l.drop i).all nameB && decide (l.length ≤ 8))
  | 0, i, h => ⟨1, by
    unfold stoleref13_pathMay.l0
    rw [if_neg (by omega), List.drop_of_length_le (by omega), List.all_nil, Bool.true_and]
    congr 1
    exact decide_eq_decide.2 (by omega)⟩
  | m + 1, i, h => by
    obtain ⟨k, ih⟩ := rpath_loop l hl hs m (i + 1) (by omega)
    have e2 : wrap64 ((i : Int) + 1) = ((i + 1 : Nat) : Int) := by rw [wrap_small _ (by omega) (by omega)]; rfl
    have hd := drop_rd l i (by omega)
    have hm : rdOf ByteArray.empty l (i : Int) ∈ l := by
      have : rdOf ByteArray.empty l (i : Int) ∈ l.drop i := by rw [hd]; exact List.mem_cons_self
      exact List.mem_of_mem_drop this
    have hn := rname_f _ (hs _ hm) _ (Nat.le_refl _)
    refine ⟨(2 * (rdOf ByteArray.empty l (i : Int)).size + 3 + k) + 1, ?_⟩
    have h1 := rname_le hn k
    have h2 := rpath0_le ih (2 * (rdOf ByteArray.empty l (i : Int)).size + 3)
    rw [Nat.add_comm k] at h2
    unfold stoleref13_pathMay.l0
    rw [if_pos (by omega), if_pos (by omega), h1, Option.bind_some, e2, h2, hd, List.all_cons]
    cases nameB (rdOf ByteArray.empty l (i : Int)) <;> simp
theorem rpath_f (l : List ByteArray) (hl : l.length ≤ 8796093022208) (hs : ∀ s ∈ l, s.size ≤ 140737488355328) : ∃ k, stoleref13_pathMay.f k l = some (pathB l) := by
  obtain ⟨k, h⟩ := rpath_loop l hl hs l.length 0 (by omega)
  refine ⟨k, ?_⟩
  unfold stoleref13_pathMay.f pathB
  rw [Bool.and_comm]
  exact h
theorem rfn_f (s : ByteArray) (k : Nat) : stoleref13_Function.f (k + 40) s = some (fnB s) := by
  unfold fnB fnL
  unfold stoleref13_Function.f stoleref13_Function.j0 stoleref13_Function.j1 stoleref13_Function.j2 stoleref13_Function.j3 stoleref13_Function.j4 stoleref13_Function.j5 stoleref13_Function.j6
  generalize s.toList = l
  repeat' split
  all_goals simp_all
theorem bindC {α β : Type} (x : α) (f : α → Option β) (y : Option α) (h : y = some x) : y.bind f = f x := by subst h; exact Option.bind_some ..
def sizedC (c : Cm) : Prop := c.f1.length ≤ 8796093022208 ∧ ∀ a ∈ c.f1, a.f2.length ≤ 8796093022208
/-! ### the document's PipeMay -/
theorem argMay_f (k : Nat) (a : Ag) : stoleref13_argMay.f k a.f0 a.f1 a.f2 a.f3 a.f4 = stoleref13_argMay.j0 k ((a.f0 != 3 && a.f4.toList != []) || (a.f0 != 1 && a.f1.toList != []) || (a.f0 != 2 && a.f0 != 4 && a.f3 != 0) || (a.f0 != 0 && a.f0 != 1 && !a.f2.isEmpty)) a.f0 a.f1 a.f2 a.f3 a.f4 := by
  obtain ⟨f0, f1, f2, f3, f4⟩ := a
  have hd : decide ((f2.length : Int) > 0) = !f2.isEmpty := by cases f2 <;> simp <;> omega
  show stoleref13_argMay.f k f0 f1 f2 f3 f4 = stoleref13_argMay.j0 k ((f0 != 3 && f4.toList != []) || (f0 != 1 && f1.toList != []) || (f0 != 2 && f0 != 4 && f3 != 0) || (f0 != 0 && f0 != 1 && !f2.isEmpty)) f0 f1 f2 f3 f4
  unfold stoleref13_argMay.f
  rw [hd]
  generalize f2.isEmpty = e2
  clear hd
  have q4 : (f4.toList != []) = !decide (f4.toList = []) := by by_cases h : f4.toList = [] <;> simp [h]
  have q1 : (f1.toList != []) = !decide (f1.toList = []) := by by_cases h : f1.toList = [] <;> simp [h]
  have q3 : (f3 != 0) = !decide (f3 = 0) := by by_cases h : f3 = 0 <;> simp [h]
  rw [q4, q1, q3]
  by_cases c3 : f0 = 3
  · subst c3
    by_cases h1 : f1.toList = [] <;> by_cases h3 : f3 = 0 <;> simp [h1, h3]
  by_cases c1 : f0 = 1
  · subst c1
    by_cases h4 : f4.toList = [] <;> by_cases h3 : f3 = 0 <;> simp [h4, h3]
  by_cases c2 : f0 = 2
  · subst c2
    by_cases h4 : f4.toList = [] <;> by_cases h1 : f1.toList = [] <;> by_cases h3 : f3 = 0 <;> simp [h1, h4, h3]
  by_cases c4 : f0 = 4
  · subst c4
    by_cases h4 : f4.toList = [] <;> by_cases h1 : f1.toList = [] <;> by_cases h3 : f3 = 0 <;> simp [h1, h4, h3]
  by_cases c0 : f0 = 0
  · subst c0
    by_cases h4 : f4.toList = [] <;> by_cases h1 : f1.toList = [] <;> by_cases h3 : f3 = 0 <;> simp [h1, h4, h3]
  have d3 : (f0 != 3) = true := bne_iff_ne.2 c3
  have d1 : (f0 != 1) = true := bne_iff_ne.2 c1
  have d2 : (f0 != 2) = true := bne_iff_ne.2 c2
  have d4 : (f0 != 4) = true := bne_iff_ne.2 c4
  have d0 : (f0 != 0) = true := bne_iff_ne.2 c0
  rw [d3, d1, d2, d4, d0]
  simp only [if_neg c3, if_neg c1, if_neg c2, if_neg c4, if_neg c0, Bool.true_and]
  by_cases h4 : f4.toList = [] <;> by_cases h1 : f1.toList = [] <;> by_cases h3 : f3 = 0 <;> simp [h1, h4, h3]
/-- Sizes that PipeMay bears. -/
def sizedM (c : Cm) : Prop := sizedC c ∧ ∀ a ∈ c.f1, a.f1.size ≤ 140737488355328 ∧ ∀ s ∈ a.f2, s.size ≤ 140737488355328
theorem argMay_j0 (k : Nat) (b : Bool) (n : Int) (x y z w) : stoleref13_argMay.j0 (k + 1) b n x y z w = if b = true then some false else stoleref13_argMay.j1 k n (n == 0 || n == 5) n x y z w := by
  unfold stoleref13_argMay.j0
  by_cases h : n = 0
  · subst h; rfl
  · have h0 : (n == 0) = false := beq_eq_false_iff_ne.2 h
    show (if b = true then some false else if n = 0 then stoleref13_argMay.j1 k n (n == 0) n x y z w else stoleref13_argMay.j1 k n (n == 5) n x y z w) = _
    rw [if_neg h, h0, Bool.false_or]
theorem argMay_j1 (k : Nat) (b : Bool) (n m : Int) (x y z w) : stoleref13_argMay.j1 (k + 1) m b n x y z w = (if b = true then ((stoleref13_pathMay.f k y).bind fun t => some t) else if m = 1 then ((stoleref13_NameMay.f k x).bind fun t => if t = true then ((stoleref13_pathMay.f k y).bind fun t => some t) else some false) else if m = 2 then (if z ≥ (-9007199254740991) then some (decide (z ≤ 9007199254740991)) else some false) else if m = 3 then some (decide ((w.size : Int) ≤ 65536)) else if m = 4 then (if z = 0 then some true else some (z == 1)) else some false) := by
  unfold stoleref13_argMay.j1
  rfl
theorem argMay_total (a : Ag) (hl : a.f2.length ≤ 8796093022208) (h1 : a.f1.size ≤ 140737488355328) (h2 : ∀ s ∈ a.f2, s.size ≤ 140737488355328) : ∃ k0, ∀ k, stoleref13_argMay.f (k0 + k) a.f0 a.f1 a.f2 a.f3 a.f4 = some (amR a) := by
  obtain ⟨kp, hp⟩ := rpath_f a.f2 (by omega) (fun s hs => by have := h2 s hs; omega)
  refine ⟨kp + (2 * a.f1.size + 3) + 2, fun k => ?_⟩
  obtain ⟨K, hK⟩ : ∃ K, kp + (2 * a.f1.size + 3) + k = K := ⟨_, rfl⟩
  have e : kp + (2 * a.f1.size + 3) + 2 + k = K + 1 + 1 := by omega
  have hpK : stoleref13_pathMay.f K a.f2 = some (pathB a.f2) := by have := rpath_le hp ((2 * a.f1.size + 3) + k); rw [show kp + (2 * a.f1.size + 3 + k) = K by omega] at this; exact this
  have hnK : stoleref13_NameMay.f K a.f1 = some (nameB a.f1) := rname_f a.f1 (by omega) K (by omega)
  rw [e, argMay_f]
  rw [argMay_j0, argMay_j1]
  unfold amR
  split
  · rfl
  · rw [bindC _ _ _ hpK, bindC _ _ _ hnK]
    have hsz : decide ((a.f4.size : Int) ≤ 65536) = decide (a.f4.toList.length ≤ 65536) := by rw [toList_length]; exact decide_eq_decide.2 (by omega)
    rw [hsz]
    by_cases c0 : a.f0 = 0
    · simp [c0]
    by_cases c5 : a.f0 = 5
    · simp [c5]
    have d5 : (a.f0 == 5) = false := beq_eq_false_iff_ne.2 c5
    have d0 : (a.f0 == 0) = false := beq_eq_false_iff_ne.2 c0
    rw [d0, d5, if_neg (show ¬ ((false || false) = true) by decide), if_neg (show ¬ (a.f0 = 0 ∨ a.f0 = 5) from fun h => h.elim c0 c5)]
    by_cases c1 : a.f0 = 1
    · rw [if_pos c1, if_pos c1]
      cases nameB a.f1 <;> rfl
    rw [if_neg c1, if_neg c1]
    by_cases c2 : a.f0 = 2
    · rw [if_pos c2, if_pos c2]
      unfold intB
      by_cases g : a.f3 ≥ -9007199254740991
      · rw [if_pos g]
        have : decide (-9007199254740991 ≤ a.f3) = true := decide_eq_true g
        rw [this, Bool.true_and]
      · rw [if_neg g]
        have : decide (-9007199254740991 ≤ a.f3) = false := decide_eq_false g
        rw [this, Bool.false_and]
    rw [if_neg c2, if_neg c2]
    by_cases c3 : a.f0 = 3
    · rw [if_pos c3, if_pos c3]
    rw [if_neg c3, if_neg c3]
    by_cases c4 : a.f0 = 4
    · rw [if_pos c4, if_pos c4]
      by_cases g : a.f3 = 0
      · rw [if_pos g, g]; rfl
      · rw [if_neg g]
        have : (a.f3 == 0) = false := beq_eq_false_iff_ne.2 g
        rw [this, Bool.false_or]
    rw [if_neg c4, if_neg c4]
theorem may1_le {a : List Cm} {i j : Int} {k : Nat} {r} (h : stoleref13_PipeMay.l1 k a i j = some r) : ∀ m, stoleref13_PipeMay.l1 (k + m) a i j = some r
  | 0 => h
  | m + 1 => (stoleref13_PipeMay.mono_l (k + m)).2.2 a i j _ (may1_le h m)
theorem may_args (p : List Cm) (i : Nat) (hi : i < p.length) (hp : p.length ≤ 8796093022208) (x : Cm) (hx : rd_T50 p (i : Int) = x) (hs : sizedM x) {r : Bool} (h0 : ∃ k, stoleref13_PipeMay.l0 k p ((i + 1 : Nat) : Int) = some r) :
    ∀ m j, j + m = x.f1.length → ∃ k, stoleref13_PipeMay.l1 k p (i : Int) (j : Int) = some ((x.f1.drop j).all amR && r)
  | 0, j, h => by
    obtain ⟨k, hk⟩ := h0
    refine ⟨k + 1, ?_⟩
    have e2 : wrap64 ((i : Int) + 1) = ((i + 1 : Nat) : Int) := by rw [Pipe.wrap_small ((i : Int) + 1) (by omega) (by omega)]; rfl
    unfold stoleref13_PipeMay.l1
    rw [if_pos (by omega), if_pos (by omega), hx, if_neg (by omega), e2, List.drop_eq_nil_of_le (by omega)]
    exact hk
  | m + 1, j, h => by
    obtain ⟨k, ih⟩ := may_args p i hi hp x hx hs h0 m (j + 1) (by omega)
    have hj : j < x.f1.length := by omega
    have hs1 := hs.1.1
    have hd : x.f1.drop j = rd_T57 x.f1 (j : Int) :: x.f1.drop (j + 1) := rd_A x.f1 j hj
    have hm : rd_T57 x.f1 (j : Int) ∈ x.f1 := by
      have : rd_T57 x.f1 (j : Int) ∈ x.f1.drop j := by rw [hd]; exact List.mem_cons_self
      exact List.mem_of_mem_drop this
    have e2 : wrap64 ((j : Int) + 1) = ((j + 1 : Nat) : Int) := by rw [Pipe.wrap_small ((j : Int) + 1) (by omega) (by omega)]; rfl
    obtain ⟨k0, hk0⟩ := argMay_total _ (hs.1.2 _ hm) (hs.2 _ hm).1 (hs.2 _ hm).2
    have h3 := may1_le ih k0
    have ht := hk0 k
    rw [Nat.add_comm k0 k] at ht
    obtain ⟨K, hK⟩ : ∃ K, k + k0 = K := ⟨_, rfl⟩
    rw [hK] at h3 ht
    refine ⟨K + 1, ?_⟩
    unfold stoleref13_PipeMay.l1
    rw [if_pos (by omega), if_pos (by omega), hx, if_pos (by omega), if_pos (by omega), bindC _ _ _ ht, e2, hd, List.all_cons]
    generalize amR (rd_T57 x.f1 (j : Int)) = q
    cases q with
    | true => rw [if_pos rfl, Bool.true_and]; exact h3
    | false => rfl
theorem may_l0 (p : List Cm) (i : Int) (k : Nat) (h0 : 0 ≤ i) (h1 : i < (p.length : Int)) : stoleref13_PipeMay.l0 (k + 40 + 1 + 1) p i = if ((!fnB (rd_T50 p i).f0 && ((rd_T50 p i).f0.toList != [] || decide (0 < i) || (rd_T50 p i).f1.length != 1)) || decide (8 < (rd_T50 p i).f1.length)) = true then some false else stoleref13_PipeMay.l1 (k + 40) p i 0 := by
  have hf := rfn_f (rd_T50 p i).f0 (k + 1)
  rw [show k + 1 + 40 = k + 40 + 1 by omega] at hf
  have hj : ∀ b, stoleref13_PipeMay.j1 (k + 40 + 1) p i b = if b = true then some false else stoleref13_PipeMay.l1 (k + 40) p i 0 := fun b => by unfold stoleref13_PipeMay.j1; rfl
  unfold stoleref13_PipeMay.l0
  rw [if_pos h1, if_pos h0, bindC _ _ _ hf]
  simp only [hj]
  generalize stoleref13_PipeMay.l1 (k + 40) p i 0 = R
  have hlen : decide (((rd_T50 p i).f1.length : Int) > 8) = decide (8 < (rd_T50 p i).f1.length) := decide_eq_decide.2 (by omega)
  rw [hlen]
  generalize fnB (rd_T50 p i).f0 = b0
  generalize (rd_T50 p i).f1.length = n
  generalize (rd_T50 p i).f0.toList = s
  generalize decide (8 < n) = b8
  cases b0 with
  | true => rw [if_pos rfl]; rfl
  | false =>
    rw [if_neg (by decide)]
    by_cases hs : s = []
    · subst hs
      rw [if_pos rfl]
      by_cases h3 : i > 0
      · rw [if_pos h3, decide_eq_true (p := 0 < i) h3]; simp
      · rw [if_neg h3, decide_eq_false (p := 0 < i) h3]
        by_cases h4 : n = 1
        · subst h4; simp
        · have h5 : ¬ ((n : Int) = 1) := by omega
          have h6 : (n != 1) = true := bne_iff_ne.2 h4
          rw [if_neg h5, h6]; simp
    · have h6 : (s != []) = true := bne_iff_ne.2 hs
      rw [if_neg hs, h6]; simp
theorem may_cmds (p : List Cm) (hp : p.length ≤ 8796093022208) (hs : ∀ x ∈ p, sizedM x) : ∀ m i, i + m = p.length → ∃ k, stoleref13_PipeMay.l0 k p (i : Int) = some (cmsR (decide (i = 0)) (p.drop i) && (decide (1 ≤ p.length) && decide (p.length ≤ 8)))
  | 0, i, h => ⟨1, by
    unfold stoleref13_PipeMay.l0
    rw [if_neg (by omega), List.drop_eq_nil_of_le (by omega)]
    unfold cmsR
    rw [Bool.true_and]
    by_cases c : 1 ≤ p.length
    · have c8 : decide ((p.length : Int) ≤ 8) = decide (p.length ≤ 8) := decide_eq_decide.2 (by omega)
      rw [if_pos (by omega), decide_eq_true c, Bool.true_and, c8]
    · rw [if_neg (by omega), decide_eq_false c, Bool.false_and]⟩
  | m + 1, i, h => by
    have hi : i < p.length := by omega
    have hd := rd_C p i hi
    have hm : rd_T50 p (i : Int) ∈ p := by
      have : rd_T50 p (i : Int) ∈ p.drop i := by rw [hd]; exact List.mem_cons_self
      exact List.mem_of_mem_drop this
    obtain ⟨k, hk⟩ := may_args p i hi hp _ rfl (hs _ hm) (may_cmds p hp hs m (i + 1) (by omega)) (rd_T50 p (i : Int)).f1.length 0 (by omega)
    rw [List.drop_zero] at hk
    refine ⟨k + 40 + 1 + 1, ?_⟩
    rw [may_l0 p (i : Int) k (by omega) (by omega), hd]
    have h3 := may1_le hk 40
    have e0 : decide (i + 1 = 0) = false := decide_eq_false (by omega)
    have e1 : decide (0 < (i : Int)) = !decide (i = 0) := by by_cases c : i = 0 <;> simp [c] <;> omega
    rw [e0] at h3
    show _ = some ((cmR (decide (i = 0)) (rd_T50 p (i : Int)) && cmsR false (p.drop (i + 1))) && _)
    unfold cmR
    rw [e1]
    generalize (!fnB (rd_T50 p (i : Int)).f0 && ((rd_T50 p (i : Int)).f0.toList != [] || !decide (i = 0) || (rd_T50 p (i : Int)).f1.length != 1) || decide (8 < (rd_T50 p (i : Int)).f1.length)) = X
    cases X with
    | true => rfl
    | false =>
      rw [if_neg (by decide), Bool.not_false, Bool.true_and, Bool.and_assoc]
      exact h3
/-- The document's PipeMay says what the program's May says. -/
theorem pmay_total (p : List Cm) (hp : p.length ≤ 8796093022208) (hs : ∀ x ∈ p, sizedM x) : ∃ k, stoleref13_PipeMay.f k p = some (mayP p) := by
  obtain ⟨k, h⟩ := may_cmds p hp hs p.length 0 (by omega)
  refine ⟨k, ?_⟩
  unfold stoleref13_PipeMay.f
  have h2 : stoleref13_PipeMay.l0 k p ((0 : Nat) : Int) = some (mayR p) := h
  rw [may_ref] at h2
  exact h2
end Go.Proofs.YtdghnfmhcnlppaaGreatDoor.Pipe
