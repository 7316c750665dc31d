/- Package pipe in plain words: what Parse and May reckon, what the document's own answers reckon, and that these are the same. -/
import Derived.Test.YtdghnfmhcnlppaaGreatDoorQ2
import Derived.Test.YtdghnfmhcnlppaaGreatDoorQ1
namespace Go.Proofs.YtdghnfmhcnlppaaGreatDoor.Pipe
open Go.RowKit Go.Proofs.YtdghnfmhcnlppaaGreatDoor.Q Go.Proofs.YtdghnfmhcnlppaaGreatDoorW.PrintWords Go.Proofs.YtdghnfmhcnlppaaGreatDoorW.PrintLast Go.Proofs.YtdghnfmhcnlppaaGreatDoorW.PrintMore
set_option linter.unusedSimpArgs false
set_option linter.unusedVariables false
abbrev Ag := S57
abbrev Cm := S50
abbrev kA : Kd Ag := k57
abbrev kC : Kd Cm := k50
/-! ### what package pipe reckons, in plain words -/
def firstI (c : Int) : Bool := c == 95 || (decide (97 ≤ c) && decide (c ≤ 122)) || (decide (65 ≤ c) && decide (c ≤ 90))
def laterI (c : Int) : Bool := firstI c || (decide (48 ≤ c) && decide (c ≤ 57))
def firstB (c : UInt8) : Bool := firstI c.toNat
def laterB (c : UInt8) : Bool := laterI c.toNat
def nameL : List UInt8 → Bool
  | [] => false
  | c :: cs => firstB c && cs.all laterB
def nameB (s : ByteArray) : Bool := decide (s.toList.length ≤ 32) && nameL s.toList
def fnL (l : List UInt8) : Bool := l == [108, 101, 110] || l == [105, 110, 100, 101, 120] || l == [101, 113] || l == [108, 116] || l == [110, 111, 116] || l == [97, 110, 100] || l == [111, 114] || l == [99, 97, 116]
def fnB (s : ByteArray) : Bool := fnL s.toList
def pathB (p : List ByteArray) : Bool := decide (p.length ≤ 8) && p.all nameB
def intB (i : Int) : Bool := decide (-9007199254740991 ≤ i) && decide (i ≤ 9007199254740991)
/-! ### what the document's answer reckons -/
/-! ### they reckon the same -/
/-! ### what may be -/
def amB (a : Ag) : Bool :=
  (a.f0 == 0 || a.f0 == 1 || a.f0 == 2 || a.f0 == 3 || a.f0 == 4 || a.f0 == 5) && (a.f0 != 1 || nameB a.f1) &&
    ((a.f0 == 1 || a.f1.toList == []) && (a.f0 == 2 || a.f3 == 0 || a.f0 == 4 && a.f3 == 1) && (a.f0 == 3 || a.f4.toList == []) && (a.f0 == 0 || a.f0 == 1 || a.f2.isEmpty)) &&
    (pathB a.f2 && intB a.f3 && decide (a.f4.toList.length ≤ 65536))
def cmB (first : Bool) (c : Cm) : Bool := ((c.f0.toList == [] && first && c.f1.length == 1) || fnB c.f0) && decide (c.f1.length ≤ 8) && c.f1.all amB
def cmsB : Bool → List Cm → Bool
  | _, [] => true
  | b, c :: cs => cmB b c && cmsB false cs
def mayP (p : List Cm) : Bool := decide (1 ≤ p.length) && decide (p.length ≤ 8) && cmsB true p
def amR (a : Ag) : Bool :=
  if ((a.f0 != 3 && a.f4.toList != []) || (a.f0 != 1 && a.f1.toList != []) || (a.f0 != 2 && a.f0 != 4 && a.f3 != 0) || (a.f0 != 0 && a.f0 != 1 && !a.f2.isEmpty)) = true then false
  else if a.f0 = 0 ∨ a.f0 = 5 then pathB a.f2
  else if a.f0 = 1 then nameB a.f1 && pathB a.f2
  else if a.f0 = 2 then intB a.f3
  else if a.f0 = 3 then decide (a.f4.toList.length ≤ 65536)
  else if a.f0 = 4 then a.f3 == 0 || a.f3 == 1 else false
def cmR (first : Bool) (c : Cm) : Bool := !((!fnB c.f0 && (c.f0.toList != [] || !first || c.f1.length != 1)) || decide (8 < c.f1.length)) && c.f1.all amR
def cmsR : Bool → List Cm → Bool
  | _, [] => true
  | b, c :: cs => cmR b c && cmsR false cs
def mayR (p : List Cm) : Bool := cmsR true p && (decide (1 ≤ p.length) && decide (p.length ≤ 8))
theorem am_ref (a : Ag) : amR a = amB a := by
  unfold amR amB
  by_cases c0 : a.f0 = 0
  · simp [c0, pathB, intB]; cases h : a.f4.toList <;> cases h1 : a.f1.toList <;> by_cases h3 : a.f3 = 0 <;> simp_all
  by_cases c1 : a.f0 = 1
  · simp [c1, pathB, intB]; cases h : a.f4.toList <;> by_cases h3 : a.f3 = 0 <;> simp_all
  by_cases c2 : a.f0 = 2
  · simp [c2, pathB]; cases h : a.f4.toList <;> cases h1 : a.f1.toList <;> cases h2 : a.f2 <;> simp_all
  by_cases c3 : a.f0 = 3
  · simp [c3, pathB, intB]; cases h1 : a.f1.toList <;> cases h2 : a.f2 <;> by_cases h3 : a.f3 = 0 <;> simp_all
  by_cases c4 : a.f0 = 4
  · simp [c4, pathB, intB]; cases h : a.f4.toList <;> cases h1 : a.f1.toList <;> cases h2 : a.f2 <;> by_cases h3 : a.f3 = 0 <;> by_cases h4 : a.f3 = 1 <;> simp_all
  by_cases c5 : a.f0 = 5
  · simp [c5, pathB, intB]; cases h : a.f4.toList <;> cases h1 : a.f1.toList <;> cases h2 : a.f2 <;> by_cases h3 : a.f3 = 0 <;> simp_all
  simp [c0, c1, c2, c3, c4, c5]
theorem cm_ref (b : Bool) (c : Cm) : cmR b c = cmB b c := by
  unfold cmR cmB
  have e : c.f1.all amR = c.f1.all amB := by congr 1; exact funext am_ref
  rw [e]
  congr 1
  by_cases h : 8 < c.f1.length
  · have h2 : ¬ c.f1.length ≤ 8 := by omega
    simp [h, h2]
  · have h2 : c.f1.length ≤ 8 := by omega
    simp only [h, h2, decide_true, decide_false, Bool.or_false, Bool.and_true]
    cases fnB c.f0 <;> cases b <;> cases hl : (c.f1.length == 1) <;> cases hf : (c.f0.toList == []) <;> simp_all [bne]
theorem cms_ref : ∀ (b : Bool) (p : List Cm), cmsR b p = cmsB b p
  | _, [] => rfl
  | b, c :: cs => by unfold cmsR cmsB; rw [cm_ref, cms_ref false cs]
theorem may_ref (p : List Cm) : mayR p = mayP p := by
  unfold mayR mayP
  rw [cms_ref, Bool.and_comm]
/-! ### what is read may be -/
end Go.Proofs.YtdghnfmhcnlppaaGreatDoor.Pipe
