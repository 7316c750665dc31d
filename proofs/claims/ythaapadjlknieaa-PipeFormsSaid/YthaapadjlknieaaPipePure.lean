/- Package pipe in plain words: what Parse and May reckon, what the document's own answers reckon, and that these are the same. -/
import Derived.Test.YthaapadjlknieaaQ2
import Derived.Test.YthaapadjlknieaaQ1
namespace Go.Proofs.Ythaapadjlknieaa.Pipe
open Go.RowKit Go.Proofs.Ythaapadjlknieaa.Q Go.Proofs.YthaapadjlknieaaW.PrintWords Go.Proofs.YthaapadjlknieaaW.PrintLast Go.Proofs.YthaapadjlknieaaW.PrintMore
set_option linter.unusedSimpArgs false
set_option linter.unusedVariables false
abbrev Wd := S45
abbrev Ag := S41
abbrev Cm := S38
abbrev kW : Kd Wd := k45
abbrev kA : Kd Ag := k41
abbrev kC : Kd Cm := k38
/-! ### what package pipe reckons, in plain words -/
def firstI (c : Int) : Bool := c == 95 || (decide (97 ≤ c) && decide (c ≤ 122)) || (decide (65 ≤ c) && decide (c ≤ 90))
def laterI (c : Int) : Bool := firstI c || (decide (48 ≤ c) && decide (c ≤ 57))
def firstB (c : UInt8) : Bool := firstI c.toNat
def laterB (c : UInt8) : Bool := laterI c.toNat
def nameL : List UInt8 → Bool
  | [] => false
  | c :: cs => firstB c && cs.all laterB
def nameB (s : ByteArray) : Bool := decide (s.toList.length ≤ 32) && nameL s.toList
def fnL (l : List UInt8) : Bool := l == [108, 101, 110] || l == [105, 110, 100, 101, 120] || l == [101, 113] || l == [108, 116] || l == [110, 111, 116] || l == [97, 110, 100] || l == [111, 114] || l == [99, 97, 116]
def fnB (s : ByteArray) : Bool := fnL s.toList
def pathB (p : List ByteArray) : Bool := decide (p.length ≤ 8) && p.all nameB
def intB (i : Int) : Bool := decide (-9007199254740991 ≤ i) && decide (i ≤ 9007199254740991)
def namedB (w : Wd) : Bool := w.f0 == 0 || w.f0 == 2
def wordB (w : Wd) : Bool :=
  !((w.f0 != 3 && w.f3 != 0) || (!namedB w && w.f0 != 4 && w.f1.toList != []) || (w.f0 != 1 && w.f0 != 2 && !w.f2.isEmpty)) &&
    ((!namedB w || nameB w.f1) && pathB w.f2 && intB w.f3 && decide (w.f1.toList.length ≤ 65536))
def trueL : List UInt8 := [116, 114, 117, 101]
def falseL : List UInt8 := [102, 97, 108, 115, 101]
def nullL : List UInt8 := [110, 117, 108, 108]
def argP (w : Wd) : Option Ag :=
  if w.f0 = 1 then some ⟨0, ⟨#[]⟩, w.f2, 0, ⟨#[]⟩⟩
  else if w.f0 = 2 then some ⟨1, w.f1, w.f2, 0, ⟨#[]⟩⟩
  else if w.f0 = 3 then some ⟨2, ⟨#[]⟩, [], w.f3, ⟨#[]⟩⟩
  else if w.f0 = 4 then some ⟨3, ⟨#[]⟩, [], 0, w.f1⟩
  else if w.f0 = 0 then
    if w.f1.toList = trueL then some ⟨4, ⟨#[]⟩, [], 1, ⟨#[]⟩⟩
    else if w.f1.toList = falseL then some ⟨4, ⟨#[]⟩, [], 0, ⟨#[]⟩⟩
    else if w.f1.toList = nullL then some ⟨5, ⟨#[]⟩, [], 0, ⟨#[]⟩⟩ else none
  else none
def argsP : List Wd → Option (List Ag)
  | [] => some []
  | w :: ws => match argP w with
    | none => none
    | some a => match argsP ws with
      | none => none
      | some l => some (a :: l)
def headF : List Wd → Bool
  | [] => false
  | w :: _ => w.f0 == 0 && fnB w.f1
def cmdP (ws : List Wd) (begins : Bool) : Option Cm :=
  if headF ws = true then (argsP ws.tail).map fun l => ⟨(ws.headD ⟨0, ⟨#[]⟩, [], 0⟩).f1, l⟩
  else if begins = true ∧ ws.length = 1 then (argsP ws).map fun l => ⟨⟨#[]⟩, l⟩ else none
/-- Words, parted at those that p marks. -/
def segs (p : Wd → Bool) : List Wd → List (List Wd)
  | [] => [[]]
  | w :: ws => if p w = true then [] :: segs p ws else (w :: (segs p ws).headD []) :: (segs p ws).tail
theorem segs_ne (p : Wd → Bool) : ∀ ws, segs p ws ≠ []
  | [] => by simp [segs]
  | w :: ws => by unfold segs; split <;> simp
def finL (cmd : List Wd → Bool → Option Cm) : List (List Wd) → List Cm → Bool → List Cm × Int
  | [], out, many => if (many || decide (8 < out.length)) = true then ([], 1501) else (out, 0)
  | s :: r, out, many => match cmd s out.isEmpty with
    | none => ([], 1500)
    | some c => finL cmd r (out ++ [c]) (many || decide (8 < c.f1.length))
def barB (w : Wd) : Bool := w.f0 == 5
def parseR (ws : List Wd) : List Cm × Int := if ws.all wordB = true then finL cmdP (segs barB ws) [] false else ([], 1500)
/-! ### what the document's answer reckons -/
def pwB (w : Wd) : Bool := w.f0 == 5 && w.f1.toList == [] && w.f3 == 0 && w.f2.isEmpty
def argR (w : Wd) : Option Ag :=
  if w.f0 = 1 then if (w.f1.toList == [] && w.f3 == 0 && pathB w.f2) = true then some ⟨0, ⟨#[]⟩, w.f2, 0, ⟨#[]⟩⟩ else none
  else if w.f0 = 2 then if (w.f3 == 0 && nameB w.f1 && pathB w.f2) = true then some ⟨1, w.f1, w.f2, 0, ⟨#[]⟩⟩ else none
  else if w.f0 = 3 then if (w.f1.toList == [] && w.f2.isEmpty && intB w.f3) = true then some ⟨2, ⟨#[]⟩, [], w.f3, ⟨#[]⟩⟩ else none
  else if w.f0 = 4 then if (w.f3 == 0 && w.f2.isEmpty && decide (w.f1.toList.length ≤ 65536)) = true then some ⟨3, ⟨#[]⟩, [], 0, w.f1⟩ else none
  else if (w.f0 == 0 && w.f3 == 0 && w.f2.isEmpty) = true then
    if w.f1.toList = trueL then some ⟨4, ⟨#[]⟩, [], 1, ⟨#[]⟩⟩
    else if w.f1.toList = falseL then some ⟨4, ⟨#[]⟩, [], 0, ⟨#[]⟩⟩
    else if w.f1.toList = nullL then some ⟨5, ⟨#[]⟩, [], 0, ⟨#[]⟩⟩ else none
  else none
def argsR : List Wd → Option (List Ag)
  | [] => some []
  | w :: ws => match argR w with
    | none => none
    | some a => match argsR ws with
      | none => none
      | some l => some (a :: l)
def cmdR (ws : List Wd) (first : Bool) : Option Cm :=
  if ws.isEmpty = true then none
  else if headF ws = true then
    if (ws.headD ⟨0, ⟨#[]⟩, [], 0⟩).f3 = 0 ∧ (ws.headD ⟨0, ⟨#[]⟩, [], 0⟩).f2.length = 0 then (argsR ws.tail).map fun l => ⟨(ws.headD ⟨0, ⟨#[]⟩, [], 0⟩).f1, l⟩ else none
  else match argsR ws with
    | none => none
    | some l => if first = true ∧ l.length = 1 then some ⟨⟨#[]⟩, l⟩ else none
def refR (ws : List Wd) : List Cm × Int := finL cmdR (segs pwB ws) [] false
/-! ### they reckon the same -/
theorem name_len {s : ByteArray} (h : nameB s = true) : s.toList.length ≤ 32 := by unfold nameB at h; simp at h; exact h.1
theorem fn_name {s : ByteArray} (h : fnB s = true) : nameB s = true := by
  unfold fnB fnL at h
  simp only [Bool.or_eq_true, beq_iff_eq] at h
  unfold nameB
  rcases h with ((((((h | h) | h) | h) | h) | h) | h) | h <;> rw [h] <;> decide
theorem argR_word {w : Wd} {a : Ag} (h : argR w = some a) : wordB w = true ∧ argP w = some a ∧ barB w = false := by
  unfold argR at h
  unfold wordB argP barB namedB
  split at h
  · rename_i c
    split at h <;> simp_all [intB]
  split at h
  · rename_i c0 c
    split at h
    · rename_i c2
      simp only [Bool.and_eq_true, beq_iff_eq] at c2
      have := name_len c2.1.2
      simp_all [intB]
      omega
    · cases h
  split at h
  · rename_i c
    split at h <;> simp_all [pathB]
  split at h
  · rename_i c
    split at h <;> simp_all [pathB, intB]
  split at h
  · rename_i c
    simp only [Bool.and_eq_true, beq_iff_eq, List.isEmpty_iff] at c
    obtain ⟨⟨c0, c3⟩, c2⟩ := c
    have key : w.f1.toList = trueL ∨ w.f1.toList = falseL ∨ w.f1.toList = nullL := by
      split at h
      · exact .inl ‹_›
      split at h
      · exact .inr (.inl ‹_›)
      split at h
      · exact .inr (.inr ‹_›)
      · cases h
    have hn : nameB w.f1 = true := by unfold nameB; rcases key with e | e | e <;> rw [e] <;> decide
    have hl := name_len hn
    refine ⟨?_, by simp_all, by simp [c0]⟩
    simp [c0, c3, c2, hn, pathB, intB]
    omega
  · cases h
theorem argP_ref {w : Wd} (h : wordB w = true) : argR w = argP w := by
  unfold wordB namedB at h
  unfold argR argP
  split
  · rename_i c; simp_all
  split
  · rename_i c; simp_all
  split
  · rename_i c; simp_all
  split
  · rename_i c; simp_all
  split
  · rename_i c; simp_all
  · rename_i c; simp_all
theorem argsP_ref : ∀ {ws : List Wd}, ws.all wordB = true → argsR ws = argsP ws
  | [], _ => rfl
  | w :: ws, h => by
    simp only [List.all_cons, Bool.and_eq_true] at h
    unfold argsR argsP
    rw [argP_ref h.1, argsP_ref h.2]
theorem argsR_word : ∀ {ws : List Wd} {l : List Ag}, argsR ws = some l → ws.all wordB = true
  | [], _, _ => rfl
  | w :: ws, l, h => by
    unfold argsR at h
    split at h
    · cases h
    · rename_i a ha
      split at h
      · cases h
      · rename_i l' hl'
        simp only [List.all_cons, Bool.and_eq_true]
        exact ⟨(argR_word ha).1, argsR_word hl'⟩
theorem argsP_len : ∀ {ws : List Wd} {l : List Ag}, argsP ws = some l → l.length = ws.length
  | [], _, h => by unfold argsP at h; injection h with h; subst h; rfl
  | w :: ws, l, h => by
    unfold argsP at h
    split at h
    · cases h
    · split at h
      · cases h
      · rename_i l' hl'
        injection h with h
        subst h
        simp [argsP_len hl']
theorem argsR_len : ∀ {ws : List Wd} {l : List Ag}, argsR ws = some l → l.length = ws.length := fun h => argsP_len ((argsP_ref (argsR_word h)).symm.trans h)
theorem head_word {w : Wd} (h : (w.f0 == 0 && fnB w.f1) = true) (h3 : w.f3 = 0) (h2 : w.f2.length = 0) : wordB w = true := by
  simp only [Bool.and_eq_true, beq_iff_eq] at h
  have hn := fn_name h.2
  have hl := name_len hn
  have h2' : w.f2 = [] := List.eq_nil_of_length_eq_zero h2
  unfold wordB namedB
  simp [h.1, h3, h2', hn, pathB, intB]
  omega
theorem cmdR_word {ws : List Wd} {b : Bool} {c : Cm} (h : cmdR ws b = some c) : ws.all wordB = true := by
  unfold cmdR at h
  split at h
  · cases h
  split at h
  · rename_i c2
    split at h
    · rename_i c3
      cases ws with
      | nil => rfl
      | cons w r =>
        obtain ⟨l, hl, _⟩ := Option.map_eq_some_iff.1 h
        simp only [List.all_cons, Bool.and_eq_true]
        exact ⟨head_word c2 c3.1 c3.2, argsR_word hl⟩
    · cases h
  split at h
  · cases h
  · rename_i l hl
    exact argsR_word hl
theorem cmd_ref {ws : List Wd} {b : Bool} (h : ws.all wordB = true) : cmdR ws b = cmdP ws b := by
  unfold cmdR cmdP
  cases ws with
  | nil => simp [headF]
  | cons w r =>
    rw [if_neg (by simp)]
    have h0 := h
    simp only [List.all_cons, Bool.and_eq_true] at h
    split
    · rename_i c2
      have hw := h.1
      unfold wordB at hw
      have c0 : w.f0 = 0 := by unfold headF at c2; simp at c2; exact c2.1
      simp [c0] at hw
      rw [if_pos (by simp; exact ⟨hw.1.1.1, hw.1.2⟩), List.tail_cons, argsP_ref h.2]
    · rw [argsP_ref h0]
      cases hl : argsP (w :: r) with
      | none => simp
      | some l => simp [argsP_len hl]
theorem bar_of {w : Wd} (h : wordB w = true) : pwB w = barB w := by
  unfold wordB namedB at h
  unfold pwB barB
  by_cases c : w.f0 = 5
  · simp_all
  · have e : (w.f0 == 5) = false := beq_eq_false_iff_ne.2 c
    rw [e]; rfl
theorem pw_bar {w : Wd} (h : pwB w = true) : wordB w = true := by
  unfold pwB at h
  unfold wordB namedB
  simp_all [pathB, intB]
theorem segs_eq : ∀ {ws : List Wd}, ws.all wordB = true → segs pwB ws = segs barB ws
  | [], _ => rfl
  | w :: ws, h => by
    simp only [List.all_cons, Bool.and_eq_true] at h
    unfold segs
    rw [bar_of h.1, segs_eq h.2]
theorem segs_words : ∀ {ws : List Wd}, (segs barB ws).all (fun s => s.all wordB) = true → ws.all wordB = true ∨ ∃ w ∈ ws, barB w = true ∧ wordB w = false
  | [], _ => .inl rfl
  | w :: ws, h => by
    unfold segs at h
    by_cases c : barB w = true
    · rw [if_pos c] at h
      simp only [List.all_cons, Bool.and_eq_true] at h
      rcases segs_words h.2 with h1 | ⟨x, hx, h1⟩
      · cases hw : wordB w with
        | true => left; simp [hw]; simpa using h1
        | false => exact .inr ⟨w, by simp, c, hw⟩
      · exact .inr ⟨x, by simp [hx], h1⟩
    · rw [if_neg c] at h
      simp only [List.all_cons, Bool.and_eq_true] at h
      have h3 : (segs barB ws).all (fun s => s.all wordB) = true := by
        cases hs : segs barB ws with
        | nil => rfl
        | cons s r => rw [hs] at h; simp only [List.all_cons, Bool.and_eq_true]; exact ⟨h.1.2, h.2⟩
      rcases segs_words h3 with h1 | ⟨x, hx, h1⟩
      · left; simp only [List.all_cons, Bool.and_eq_true]; exact ⟨h.1.1, h1⟩
      · exact .inr ⟨x, by simp [hx], h1⟩
theorem segs_pw : ∀ {ws : List Wd}, (segs pwB ws).all (fun s => s.all wordB) = true → ws.all wordB = true
  | [], _ => rfl
  | w :: ws, h => by
    unfold segs at h
    by_cases c : pwB w = true
    · rw [if_pos c] at h
      simp only [List.all_cons, Bool.and_eq_true] at h ⊢
      exact ⟨pw_bar c, segs_pw h.2⟩
    · rw [if_neg c] at h
      simp only [List.all_cons, Bool.and_eq_true] at h ⊢
      have h3 : (segs pwB ws).all (fun s => s.all wordB) = true := by
        cases hs : segs pwB ws with
        | nil => rfl
        | cons s r => rw [hs] at h; simp only [List.all_cons, Bool.and_eq_true]; exact ⟨h.1.2, h.2⟩
      exact ⟨h.1.1, segs_pw h3⟩
theorem fin_bad : ∀ {ss : List (List Wd)} {out : List Cm} {many : Bool}, ss.all (fun s => s.all wordB) = false → finL cmdR ss out many = ([], 1500)
  | [], _, _, h => by cases h
  | s :: r, out, many, h => by
    unfold finL
    cases hc : cmdR s out.isEmpty with
    | none => rfl
    | some c =>
      have hs := cmdR_word hc
      simp only [List.all_cons, hs, Bool.true_and] at h
      exact fin_bad h
theorem fin_same : ∀ {ss : List (List Wd)} {out : List Cm} {many : Bool}, ss.all (fun s => s.all wordB) = true → finL cmdR ss out many = finL cmdP ss out many
  | [], _, _, _ => rfl
  | s :: r, out, many, h => by
    simp only [List.all_cons, Bool.and_eq_true] at h
    unfold finL
    rw [cmd_ref h.1]
    cases cmdP s out.isEmpty with
    | none => rfl
    | some c => exact fin_same h.2
theorem segs_all : ∀ {p : Wd → Bool} {ws : List Wd}, ws.all wordB = true → (segs p ws).all (fun s => s.all wordB) = true
  | p, [], _ => rfl
  | p, w :: ws, h => by
    simp only [List.all_cons, Bool.and_eq_true] at h
    have ih := segs_all (p := p) h.2
    unfold segs
    split
    · simp only [List.all_cons, ih, List.all_nil, Bool.and_self]
    · cases hs : segs p ws with
      | nil => exact absurd hs (segs_ne p ws)
      | cons s r =>
        rw [hs] at ih
        simp only [List.all_cons, Bool.and_eq_true] at ih
        simp only [List.headD_cons, List.tail_cons, List.all_cons, h.1, ih.1, ih.2, Bool.and_self]
theorem parse_ref (ws : List Wd) : refR ws = parseR ws := by
  unfold refR parseR
  by_cases c : ws.all wordB = true
  · rw [if_pos c, fin_same (segs_all c), segs_eq c]
  · rw [if_neg c]
    refine fin_bad ?_
    cases h : (segs pwB ws).all (fun s => s.all wordB) with
    | false => rfl
    | true => exact absurd (segs_pw h) c
/-! ### what may be -/
def amB (a : Ag) : Bool :=
  (a.f0 == 0 || a.f0 == 1 || a.f0 == 2 || a.f0 == 3 || a.f0 == 4 || a.f0 == 5) && (a.f0 != 1 || nameB a.f1) &&
    ((a.f0 == 1 || a.f1.toList == []) && (a.f0 == 2 || a.f3 == 0 || a.f0 == 4 && a.f3 == 1) && (a.f0 == 3 || a.f4.toList == []) && (a.f0 == 0 || a.f0 == 1 || a.f2.isEmpty)) &&
    (pathB a.f2 && intB a.f3 && decide (a.f4.toList.length ≤ 65536))
def cmB (first : Bool) (c : Cm) : Bool := ((c.f0.toList == [] && first && c.f1.length == 1) || fnB c.f0) && decide (c.f1.length ≤ 8) && c.f1.all amB
def cmsB : Bool → List Cm → Bool
  | _, [] => true
  | b, c :: cs => cmB b c && cmsB false cs
def mayP (p : List Cm) : Bool := decide (1 ≤ p.length) && decide (p.length ≤ 8) && cmsB true p
def amR (a : Ag) : Bool :=
  if ((a.f0 != 3 && a.f4.toList != []) || (a.f0 != 1 && a.f1.toList != []) || (a.f0 != 2 && a.f0 != 4 && a.f3 != 0) || (a.f0 != 0 && a.f0 != 1 && !a.f2.isEmpty)) = true then false
  else if a.f0 = 0 ∨ a.f0 = 5 then pathB a.f2
  else if a.f0 = 1 then nameB a.f1 && pathB a.f2
  else if a.f0 = 2 then intB a.f3
  else if a.f0 = 3 then decide (a.f4.toList.length ≤ 65536)
  else if a.f0 = 4 then a.f3 == 0 || a.f3 == 1 else false
def cmR (first : Bool) (c : Cm) : Bool := !((!fnB c.f0 && (c.f0.toList != [] || !first || c.f1.length != 1)) || decide (8 < c.f1.length)) && c.f1.all amR
def cmsR : Bool → List Cm → Bool
  | _, [] => true
  | b, c :: cs => cmR b c && cmsR false cs
def mayR (p : List Cm) : Bool := cmsR true p && (decide (1 ≤ p.length) && decide (p.length ≤ 8))
theorem am_ref (a : Ag) : amR a = amB a := by
  unfold amR amB
  by_cases c0 : a.f0 = 0
  · simp [c0, pathB, intB]; cases h : a.f4.toList <;> cases h1 : a.f1.toList <;> by_cases h3 : a.f3 = 0 <;> simp_all
  by_cases c1 : a.f0 = 1
  · simp [c1, pathB, intB]; cases h : a.f4.toList <;> by_cases h3 : a.f3 = 0 <;> simp_all
  by_cases c2 : a.f0 = 2
  · simp [c2, pathB]; cases h : a.f4.toList <;> cases h1 : a.f1.toList <;> cases h2 : a.f2 <;> simp_all
  by_cases c3 : a.f0 = 3
  · simp [c3, pathB, intB]; cases h1 : a.f1.toList <;> cases h2 : a.f2 <;> by_cases h3 : a.f3 = 0 <;> simp_all
  by_cases c4 : a.f0 = 4
  · simp [c4, pathB, intB]; cases h : a.f4.toList <;> cases h1 : a.f1.toList <;> cases h2 : a.f2 <;> by_cases h3 : a.f3 = 0 <;> by_cases h4 : a.f3 = 1 <;> simp_all
  by_cases c5 : a.f0 = 5
  · simp [c5, pathB, intB]; cases h : a.f4.toList <;> cases h1 : a.f1.toList <;> cases h2 : a.f2 <;> by_cases h3 : a.f3 = 0 <;> simp_all
  simp [c0, c1, c2, c3, c4, c5]
theorem cm_ref (b : Bool) (c : Cm) : cmR b c = cmB b c := by
  unfold cmR cmB
  have e : c.f1.all amR = c.f1.all amB := by congr 1; exact funext am_ref
  rw [e]
  congr 1
  by_cases h : 8 < c.f1.length
  · have h2 : ¬ c.f1.length ≤ 8 := by omega
    simp [h, h2]
  · have h2 : c.f1.length ≤ 8 := by omega
    simp only [h, h2, decide_true, decide_false, Bool.or_false, Bool.and_true]
    cases fnB c.f0 <;> cases b <;> cases hl : (c.f1.length == 1) <;> cases hf : (c.f0.toList == []) <;> simp_all [bne]
theorem cms_ref : ∀ (b : Bool) (p : List Cm), cmsR b p = cmsB b p
  | _, [] => rfl
  | b, c :: cs => by unfold cmsR cmsB; rw [cm_ref, cms_ref false cs]
theorem may_ref (p : List Cm) : mayR p = mayP p := by
  unfold mayR mayP
  rw [cms_ref, Bool.and_comm]
/-! ### what is read may be -/
theorem empty_list : (⟨#[]⟩ : ByteArray).toList = [] := by
  unfold ByteArray.toList
  unfold ByteArray.toList.loop
  rfl
theorem arg_may {w : Wd} {a : Ag} (hw : wordB w = true) (h : argP w = some a) : amB a = true := by
  unfold wordB namedB at hw
  unfold argP at h
  have p0 : pathB [] = true := by decide
  have i0 : intB 0 = true := by decide
  have i1 : intB 1 = true := by decide
  have e0 := empty_list
  unfold amB
  split at h
  · simp_all; subst h; simp_all
  split at h
  · simp_all; subst h; simp_all
  split at h
  · simp_all; subst h; simp_all
  split at h
  · simp_all; subst h; simp_all
  split at h
  · split at h
    · injection h with h; subst h; simp_all
    split at h
    · injection h with h; subst h; simp_all
    split at h
    · injection h with h; subst h; simp_all
    · cases h
  · cases h
theorem args_may : ∀ {ws : List Wd} {l : List Ag}, ws.all wordB = true → argsP ws = some l → l.all amB = true
  | [], _, _, h => by unfold argsP at h; injection h with h; subst h; rfl
  | w :: ws, l, hw, h => by
    simp only [List.all_cons, Bool.and_eq_true] at hw
    unfold argsP at h
    split at h
    · cases h
    · rename_i a ha
      split at h
      · cases h
      · rename_i l' hl'
        injection h with h
        subst h
        simp only [List.all_cons, Bool.and_eq_true]
        exact ⟨arg_may hw.1 ha, args_may hw.2 hl'⟩
theorem cmd_may {ws : List Wd} {b : Bool} {c : Cm} (hw : ws.all wordB = true) (h : cmdP ws b = some c) (h8 : c.f1.length ≤ 8) : cmB b c = true := by
  unfold cmdP at h
  unfold cmB
  split at h
  · rename_i c2
    cases ws with
    | nil => simp [headF] at c2
    | cons w r =>
      obtain ⟨l, hl, rfl⟩ := Option.map_eq_some_iff.1 h
      simp only [List.all_cons, Bool.and_eq_true] at hw
      have := args_may hw.2 hl
      unfold headF at c2
      simp only [Bool.and_eq_true] at c2
      simp only [List.headD_cons, c2.2, Bool.or_true, Bool.true_and, Bool.and_eq_true, decide_eq_true_eq]
      exact ⟨h8, this⟩
  · split at h
    · rename_i c3
      obtain ⟨l, hl, rfl⟩ := Option.map_eq_some_iff.1 h
      have h1 := argsP_len hl
      have e0 := empty_list
      simp only [e0, c3.1, h1, c3.2, args_may hw hl, Bool.and_true]
      decide
    · cases h
theorem cms_app : ∀ (b : Bool) (p q : List Cm), cmsB b (p ++ q) = (cmsB b p && cmsB (b && p.isEmpty) q)
  | b, [], q => by simp [cmsB]
  | b, c :: p, q => by
    show (cmB b c && cmsB false (p ++ q)) = ((cmB b c && cmsB false p) && cmsB (b && false) q)
    rw [cms_app false p q, Bool.and_false, Bool.false_and, Bool.and_assoc]
theorem fin_may : ∀ {ss : List (List Wd)} {out : List Cm} {many : Bool} {cs : List Cm}, ss.all (fun s => s.all wordB) = true → (many = false → cmsB true out = true) → (1 ≤ out.length ∨ ss ≠ []) → finL cmdP ss out many = (cs, 0) → mayP cs = true
  | [], out, many, cs, _, ho, h1, h => by
    unfold finL at h
    split at h
    · rename_i c
      injection h with h1 h2
      cases h2
    · rename_i c
      injection h with h2 _
      subst h2
      simp only [Bool.or_eq_true, decide_eq_true_eq, not_or, Bool.not_eq_true] at c
      unfold mayP
      simp only [Bool.and_eq_true, decide_eq_true_eq]
      exact ⟨⟨h1.resolve_right (fun h => h rfl), by omega⟩, ho c.1⟩
  | s :: r, out, many, cs, hw, ho, _, h => by
    simp only [List.all_cons, Bool.and_eq_true] at hw
    unfold finL at h
    split at h
    · injection h with _ h2; cases h2
    · rename_i c hc
      refine fin_may hw.2 (fun hm => ?_) (.inl (by simp)) h
      simp only [Bool.or_eq_false_iff, decide_eq_false_iff_not] at hm
      rw [cms_app, ho hm.1, Bool.true_and, Bool.true_and]
      unfold cmsB
      rw [cmd_may hw.1 hc (by omega)]
      rfl
theorem parse_may {ws : List Wd} {cs : List Cm} (h : parseR ws = (cs, 0)) : mayP cs = true := by
  unfold parseR at h
  split at h
  · rename_i c
    exact fin_may (segs_all c) (fun _ => rfl) (.inr (segs_ne _ _)) h
  · injection h with _ h; cases h
theorem fin_err : ∀ {cmd : List Wd → Bool → Option Cm} {ss : List (List Wd)} {out : List Cm} {many : Bool}, (finL cmd ss out many).2 = 0 ∨ ((finL cmd ss out many).1 = [] ∧ ((finL cmd ss out many).2 = 1500 ∨ (finL cmd ss out many).2 = 1501))
  | cmd, [], out, many => by
    unfold finL
    split
    · exact .inr ⟨rfl, .inr rfl⟩
    · exact .inl rfl
  | cmd, s :: r, out, many => by
    unfold finL
    split
    · exact .inr ⟨rfl, .inl rfl⟩
    · exact fin_err
theorem parse_err (ws : List Wd) : (parseR ws).2 = 0 ∨ ((parseR ws).1 = [] ∧ ((parseR ws).2 = 1500 ∨ (parseR ws).2 = 1501)) := by
  unfold parseR
  split
  · exact fin_err
  · exact .inr ⟨rfl, .inl rfl⟩
theorem may_len {p : List Cm} (h : mayP p = true) : p.length ≤ 8 := by unfold mayP at h; simp at h; exact h.1.2
/-- A command more that is none. -/
theorem may_app_bad {p : List Cm} {c : Cm} (hp : 1 ≤ p.length) (h : cmB false c = false) : mayP (p ++ [c]) = false := by
  unfold mayP
  rw [cms_app]
  have : p.isEmpty = false := by cases p with
    | nil => simp at hp
    | cons _ _ => rfl
  simp [this, cmsB, h]
end Go.Proofs.Ythaapadjlknieaa.Pipe
