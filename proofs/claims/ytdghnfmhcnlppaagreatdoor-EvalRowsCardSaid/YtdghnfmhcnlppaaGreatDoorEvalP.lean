/- Package eval, in plain words: what a pipe's value may be: its words are words, and it can be copied. -/
import Derived.Test.YtdghnfmhcnlppaaGreatDoorEvalD
namespace Go.Proofs.YtdghnfmhcnlppaaGreatDoor.Eval
open Go.RowKit Go.Proofs.YtdghnfmhcnlppaaGreatDoor.Q Go.Proofs.YtdghnfmhcnlppaaGreatDoor.Real Go.Proofs.YtdghnfmhcnlppaaGreatDoor.RealPure Go.Proofs.YtdghnfmhcnlppaaGreatDoor.Values Go.Proofs.YtdghnfmhcnlppaaGreatDoor.Fns Go.Proofs.YtdghnfmhcnlppaaGreatDoorW.PrintWords Go.Proofs.YtdghnfmhcnlppaaGreatDoorW.PrintLast Go.Proofs.YtdghnfmhcnlppaaGreatDoorW.PrintMore
set_option linter.unusedSimpArgs false
set_option linter.unusedVariables false

/-- A value of words that are words, that can be copied. -/
def Good (x : V) : Prop := (∀ d, rngD d x) ∧ ∃ d, fitD d x
theorem good_leaf {x : V} (h4 : x.f4 = []) (h5 : x.f5 = []) (h2 : x.f2 = 0) : Good x := by
  refine ⟨fun d => ?_, fit_nil x h4 h5⟩
  cases d with
  | zero => trivial
  | succ d => exact ⟨by omega, by omega, fun z hz => by rw [h4] at hz; cases hz⟩
theorem good_item {x z : V} (h : Good x) (hz : z ∈ x.f4) : Good z := by
  refine ⟨fun d => (h.1 (d + 1)).2.2 z hz, ?_⟩
  obtain ⟨d, hd⟩ := h.2
  cases d with
  | zero => exact hd.elim
  | succ d => exact ⟨d, hd.2.2 z hz⟩
theorem good_may {x : V} (h : mayB x = true) (hr : ∀ d, rngD d x) : Good x := ⟨hr, 8, fit_of_ok 8 x (okG_of_may 8 x 1024 h)⟩
theorem good_zero : Good z27 := good_leaf rfl rfl rfl
theorem good_rd {l : List V} (h : ∀ z ∈ l, Good z) (i : Int) : Good (rd_T27 l i) := by
  unfold rd_T27
  rw [List.getD_eq_getElem?_getD]
  cases e : l[i.toNat]? with
  | none => exact good_zero
  | some z => exact h z (List.mem_of_getElem? e)
theorem atR_good : ∀ (ps : List ByteArray) (x : V), Good x → Good (atR x ps).1
  | [], x, h => h
  | k :: ks, x, h => by
    unfold atR
    split
    · split
      · exact atR_good ks _ (good_rd (fun z hz => good_item h hz) _)
      · exact good_zero
    · exact good_zero
theorem pickL_good (b : Bool) : ∀ (l : List V) (z : V), (∀ x ∈ l, Good x) → Good z → Good (pickL b l z)
  | [], z, _, hz => hz
  | x :: xs, z, h, hz => by
    unfold pickL
    split
    · exact h x List.mem_cons_self
    · exact pickL_good b xs z (fun y hy => h y (List.mem_cons_of_mem _ hy)) hz
theorem catL_good : ∀ (l : List V) (acc : List UInt8) (lg : Bool), Good (catL l acc lg).1
  | [], acc, lg => by
    unfold catL
    split
    · exact good_zero
    · exact good_leaf rfl rfl rfl
  | x :: xs, acc, lg => by
    unfold catL
    split
    · split
      · exact catL_good xs acc true
      · exact catL_good xs _ false
    · exact good_zero
theorem doesR_good (f : Nat) (l : List V) (h : ∀ z ∈ l, Good z) : Good (doesR f l).1 := by
  have hr := good_rd h
  unfold doesR
  split
  · unfold lengthR
    split
    · exact good_leaf rfl rfl rfl
    · split <;> exact good_leaf rfl rfl rfl
  · unfold indexR
    split
    · exact good_zero
    · split
      · exact good_zero
      · exact good_rd (fun z hz => good_item (hr 0) hz) _
  · exact good_leaf rfl rfl rfl
  · split <;> exact good_leaf rfl rfl rfl
  · exact good_leaf rfl rfl rfl
  · exact pickL_good _ _ _ h (hr _)
  · exact pickL_good _ _ _ h (hr _)
  · exact catL_good _ _ _
theorem callR_good (nm : ByteArray) (l : List V) (h : ∀ z ∈ l, Good z) : Good (callR nm l).1 := by
  unfold callR
  split
  · exact good_zero
  split
  · exact good_zero
  split
  · exact good_zero
  · exact doesR_good _ l h
/-- An Env whose values' words are words. -/
def goodE (e : En) : Prop := (∀ d, rngD d e.f0) ∧ ∀ v ∈ e.f1, ∀ d, rngD d v.f1
theorem lastV_good {vs : List Vr} {nm : ByteArray} (h : ∀ v ∈ vs, Good v.f1) : ∀ k, k ≤ vs.length → ∀ x, lastV vs nm k = some x → Good x
  | 0, _, x, hx => by cases hx
  | k + 1, hk, x, hx => by
    unfold lastV at hx
    split at hx
    · injection hx with hx
      subst hx
      refine h _ ?_
      have e1 := rd_X vs k (by omega)
      exact List.mem_of_mem_drop (i := k) (by rw [e1]; exact List.mem_cons_self)
    · exact lastV_good h k (by omega) x hx
theorem argR_good (e : En) (a : Ag) (hok : envB e = true) (h : goodE e) : Good (argR e a).1 := by
  unfold argR
  split
  · exact atR_good _ _ (good_may (may_dot hok) h.1)
  split
  · unfold varR
    split
    · rename_i x hx
      refine atR_good _ _ (lastV_good (fun v hv => ?_) _ (Nat.le_refl _) x hx)
      unfold envB at hok
      simp only [Bool.and_eq_true, List.all_eq_true] at hok
      have h2 := hok.2 _ hv
      unfold varB at h2
      simp only [Bool.and_eq_true] at h2
      exact good_may h2.2 (h.2 v hv)
    · exact good_zero
  repeat' split
  all_goals exact good_leaf rfl rfl rfl
theorem argsR_good (e : En) (hok : envB e = true) (h : goodE e) : ∀ l : List Ag, ∀ z ∈ (argsR e l).1, Good z
  | [], z, hz => by cases hz
  | a :: xs, z, hz => by
    unfold argsR at hz
    split at hz
    · rcases List.mem_cons.1 hz with rfl | hz
      · exact argR_good e a hok h
      · exact argsR_good e hok h xs z hz
    · cases hz
theorem cmdR_good (e : En) (before : List V) (c : Cm) (hok : envB e = true) (h : goodE e) (hb : ∀ z ∈ before, Good z) : Good (cmdR e before c).1 := by
  unfold cmdR
  split
  · split
    · exact good_rd (argsR_good e hok h c.f1) _
    · refine callR_good _ _ (fun z hz => ?_)
      rcases List.mem_append.1 hz with hz | hz
      · exact argsR_good e hok h c.f1 z hz
      · exact hb z hz
  · exact good_zero
theorem reckR_good (e : En) (hok : envB e = true) (h : goodE e) : ∀ (p : List Cm) (before : List V) (v : V), (∀ z ∈ before, Good z) → Good v → Good (reckR e p before v).1
  | [], before, v, _, hv => hv
  | c :: cs, before, v, hb, hv => by
    unfold reckR
    have hc := cmdR_good e before c hok h hb
    split
    · exact reckR_good e hok h cs _ _ (fun z hz => by rw [List.mem_singleton.1 hz]; exact hc) hc
    · exact good_zero
/-! ### what a pipe that may be holds -/
theorem cms_in : ∀ (b : Bool) (p : List Cm), Pipe.cmsB b p = true → ∀ c ∈ p, Pipe.cmB true c = true ∨ Pipe.cmB false c = true
  | b, [], _, c, hc => by cases hc
  | b, c0 :: cs, h, c, hc => by
    have h' : (Pipe.cmB b c0 && Pipe.cmsB false cs) = true := h
    rw [Bool.and_eq_true] at h'
    rcases List.mem_cons.1 hc with rfl | hc
    · cases b
      · exact .inr h'.1
      · exact .inl h'.1
    · exact cms_in false cs h'.2 c hc
theorem cm_parts {b : Bool} {c : Cm} (h : Pipe.cmB b c = true) : c.f1.length ≤ 8 ∧ (∀ a ∈ c.f1, a.f2.length ≤ 8) ∧ ((c.f0.toList == ([] : List UInt8)) = true → c.f1.length = 1) := by
  unfold Pipe.cmB at h
  simp only [Bool.and_eq_true, decide_eq_true_eq, List.all_eq_true, Bool.or_eq_true] at h
  obtain ⟨⟨h1, h2⟩, h3⟩ := h
  refine ⟨h2, fun a ha => ?_, fun he => ?_⟩
  · have q := h3 a ha
    unfold Pipe.amB Pipe.pathB at q
    simp only [Bool.and_eq_true, decide_eq_true_eq] at q
    exact q.2.1.1.1
  · rcases h1 with h1 | h1
    · exact beq_iff_eq.1 h1.2
    · exfalso
      unfold Pipe.fnB at h1
      rw [beq_iff_eq.1 he] at h1
      exact absurd h1 (by decide)
theorem pipe_parts {p : List Cm} (h : Pipe.mayP p = true) : 1 ≤ p.length ∧ p.length ≤ 8 ∧ ∀ c ∈ p, c.f1.length ≤ 8 ∧ (∀ a ∈ c.f1, a.f2.length ≤ 8) ∧ ((c.f0.toList == ([] : List UInt8)) = true → c.f1.length = 1) := by
  unfold Pipe.mayP at h
  simp only [Bool.and_eq_true, decide_eq_true_eq] at h
  refine ⟨h.1.1, h.1.2, fun c hc => ?_⟩
  rcases cms_in true p h.2 c hc with q | q <;> exact cm_parts q
end Go.Proofs.YtdghnfmhcnlppaaGreatDoor.Eval
