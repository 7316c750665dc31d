/- Package value, walked: same, through slices.EqualFunc. · Package value, walked: same. · Package value, walked: Same. -/
import Derived.Test.YtdghnfmhcnlppaaGreatDoorValuesK
import Derived.Test.YtdghnfmhcnlppaaGreatDoorValuesE
namespace Go.Proofs.YtdghnfmhcnlppaaGreatDoor.Values
open Go.RowKit Go.Proofs.YtdghnfmhcnlppaaGreatDoor.Q Go.Proofs.YtdghnfmhcnlppaaGreatDoor.Real Go.Proofs.YtdghnfmhcnlppaaGreatDoor.RealPure Go.Proofs.YtdghnfmhcnlppaaGreatDoorW.PrintWords Go.Proofs.YtdghnfmhcnlppaaGreatDoorW.PrintLast Go.Proofs.YtdghnfmhcnlppaaGreatDoorW.PrintMore
set_option linter.unusedSimpArgs false
set_option linter.unusedVariables false

def sameL (f : V → V → Bool) : List V → List V → Bool
  | x :: xs, y :: ys => f x y && sameL f xs ys
  | [], [] => true
  | _, _ => false
def eqFrom (l l' : List ByteArray) : Nat → Nat → Bool
  | 0, _ => true
  | m + 1, i => ((l.getD i ByteArray.empty).toList == (l'.getD i ByteArray.empty).toList) && eqFrom l l' m (i + 1)
/-- slices.Equal, of texts. -/
def equalB (l l' : List ByteArray) : Bool := decide (l.length = l'.length) && eqFrom l l' l.length 0
def sameD : Nat → V → V → Bool
  | 0, _, _ => false
  | d + 1, x, y => if x.f0 == y.f0 then (if x.f0 == 3 then sameRealB x.f2 y.f2 else (x.f1 == y.f1 && x.f3.toList == y.f3.toList) && equalB x.f5 y.f5 && sameL (sameD d) x.f4 y.f4) else false
/-- A tree of at most so many levels, its words words. -/
def okD : Nat → V → Prop
  | 0, _ => False
  | d + 1, x => 0 ≤ x.f2 ∧ x.f2 < 2 ^ 64 ∧ x.f5.length < 1099511627776 ∧ x.f4.length < 1099511627776 ∧ ∀ z ∈ x.f4, okD d z

def SameC (d : Nat) : Prop := ∀ (x y : V) (A4 : Option Addr) (c4 : Nat) (A5 : Option Addr) (c5 : Nat) (B4 : Option Addr) (d4 : Nat) (B5 : Option Addr) (d5 : Nat) (w : World),
    okD d x → okD d y → Rows4 w x A4 c4 A5 c5 → Rows4 w y B4 d4 B5 d5 →
    Calls Tryz.prog 82 #[arg x A4 c4 A5 c5, arg y B4 d4 B5 d5] w fun e w' => e = .returned (.bool (sameD d x y)) ∧ Below w.heap.size w w'

theorem same_zero : SameC 0 := fun x y A4 c4 A5 c5 B4 d4 B5 d5 w h => h.elim

theorem sameL_drop (f : V → V → Bool) (xs ys : List V) (i : Nat) (hi : i < xs.length) (hj : i < ys.length) :
    sameL f (xs.drop i) (ys.drop i) = (f (rd_T27 xs i) (rd_T27 ys i) && sameL f (xs.drop (i + 1)) (ys.drop (i + 1))) := by
  have e : ∀ zs : List V, i < zs.length → zs.drop i = rd_T27 zs i :: zs.drop (i + 1) := by
    intro zs hz
    rw [List.drop_eq_getElem_cons hz]
    congr 1
    unfold rd_T27
    simp [hz]
  rw [e xs hi, e ys hj]; rfl
theorem rd_mem (xs : List V) (i : Int) (h0 : 0 ≤ i) (h1 : i < xs.length) : rd_T27 xs i ∈ xs := by
  unfold rd_T27
  have : i.toNat < xs.length := by omega
  rw [List.getD_eq_getElem?_getD, List.getElem?_eq_getElem this]
  exact List.getElem_mem this

set_option maxHeartbeats 8000000 in
set_option maxRecDepth 100000 in
theorem equalFunc_calls (d : Nat) (ih : SameC d) (xs ys : List V) (A : Option Addr) (c : Nat) (B : Option Addr) (c' : Nat) (w : World) (hx : ∀ z ∈ xs, okD d z) (hy : ∀ z ∈ ys, okD d z)
    (hl : xs.length < 1099511627776) (hA : Kd.C k27 w A xs.length xs) (hB : Kd.C k27 w B ys.length ys) :
    Calls Tryz.prog 100 #[.slice A xs.length c, .slice B ys.length c', .func (.func 82) #[] #[]] w fun e w' => e = .returned (.bool (sameL (sameD d) xs ys)) ∧ Below w.heap.size w w' := by
  have hu27 := Tryz.underlying27
  have HIH := Lib.hid ih; have HX := Lib.hid hx; have HY := Lib.hid hy; have HA0 := Lib.hid hA; have HB0 := Lib.hid hB
  clear ih hx hy hA hB
  by_cases hn : xs.length = ys.length
  · have n0 : ((xs.length : Int) != (ys.length : Int)) = false := by simp [hn]
    have HN := Lib.hid hn
    clear hn
    go_enter Tryz.func100, Tryz.ntmps100
    go_wp2
    have A1 := Aside0.mk (Below.refl w.heap.size w)
    obtain ⟨R, hR⟩ : ∃ R, sameL (sameD d) xs ys = R := ⟨_, rfl⟩
    go_loopg [17] xs.length (fun kq v17 w' => ∃ (i : Int), v17 = .int .i64 i ∧ Aside0 (i + kq = xs.length ∧ 0 ≤ i) ∧ Aside0 (sameL (sameD d) (xs.drop i.toNat) (ys.drop i.toNat) = sameL (sameD d) xs ys) ∧ Aside0 (Below w.heap.size w w'))
    case atStart => exact ⟨0, rfl, ⟨by omega, by omega⟩, ⟨rfl⟩, A1⟩
    case round =>
      clear A1
      obtain ⟨i, rfl, HI, HM, HB⟩ := hrel
      obtain ⟨hi1, hi0⟩ := HI.out
      cases gk with
      | zero =>
        have hlt : decide (i < (xs.length : Int)) = false := decide_eq_false (by omega)
        have e := HM.out
        rw [List.drop_of_length_le (by omega), List.drop_of_length_le (by have := HN.out; omega)] at e
        have e1 : sameL (sameD d) xs ys = true := by rw [← e]; rfl
        clear e hi1 hi0 hR
        go_wp2
        go_ret
        exact ⟨by rw [e1]; rfl, HB.out⟩
      | succ k2 =>
        have hlt : decide (i < (xs.length : Int)) = true := decide_eq_true (by omega)
        have hlt' : i < (xs.length : Int) := by omega
        have hlt2 : i < (ys.length : Int) := by have := HN.out; omega
        obtain ⟨ad, E4, e4, E5, e5, rfl, hAt, hl4, hk4, hl5, hk5⟩ := At.of_elem HA0.out i hi0 hlt'
        obtain ⟨bd, F4, f4, F5, f5, rfl, hBt, hm4, hj4, hm5, hj5⟩ := At.of_elem HB0.out i hi0 hlt2
        have q0 := eq_true hi0
        have q1 := eq_true hlt'
        have q2 := eq_true hlt2
        have en : (i + 1).toNat = i.toNat + 1 := by omega
        have wi : wrap64 (i + 1) = i + 1 := wrap_small _ (by omega) (by omega)
        have wi' : IntKind.i64.wrap (i + 1) = i + 1 := by rw [i64_w]; exact wi
        obtain ⟨a0, a1, a2, a3, a4, a5⟩ := hAt.below HB.out
        have hBr := hBt.below HB.out
        have b0 := fun o => pw_cell_below (below_alloc (Below.refl _ _) o) hBr.g0
        have b1 := fun o => pw_cell_below (below_alloc (Below.refl _ _) o) hBr.g1
        have b2 := fun o => pw_cell_below (below_alloc (Below.refl _ _) o) hBr.g2
        have b3 := fun o => pw_cell_below (below_alloc (Below.refl _ _) o) hBr.g3
        have b4 := fun o => pw_cell_below (below_alloc (Below.refl _ _) o) hBr.g4
        have b5 := fun o => pw_cell_below (below_alloc (Below.refl _ _) o) hBr.g5
        clear hBr
        have RX := Lib.hid (fun o1 o2 => (⟨hk4, hl4, hk5, hl5⟩ : Rows4 w (rd_T27 xs i) E4 e4 E5 e5).below (below_alloc (below_alloc HB.out o1) o2))
        have RY := Lib.hid (fun o1 o2 => (⟨hj4, hm4, hj5, hm5⟩ : Rows4 w (rd_T27 ys i) F4 f4 F5 f5).below (below_alloc (below_alloc HB.out o1) o2))
        have OX := Lib.hid (HX.out _ (rd_mem xs i hi0 hlt'))
        have OY := Lib.hid (HY.out _ (rd_mem ys i hi0 hlt2))
        have hstep := sameL_drop (sameD d) xs ys i.toNat (by omega) (by omega)
        have er : ∀ zs, rd_T27 zs (i.toNat : Nat) = rd_T27 zs i := fun zs => by unfold rd_T27; rfl
        rw [HM.out, er, er] at hstep
        have HI2 := Aside0.mk (show i + 1 + k2 = xs.length ∧ 0 ≤ i + 1 from ⟨by omega, by omega⟩)
        have CS := Lib.hid (fun o1 o2 => HIH.out (rd_T27 xs i) (rd_T27 ys i) E4 e4 E5 e5 F4 f4 F5 f5 _ OX.out OY.out (RX.out o1 o2) (RY.out o1 o2))
        have HBA := Lib.hid (fun o1 o2 => below_alloc (below_alloc HB.out o1) o2)
        clear hk4 hl4 hk5 hl5 hj4 hm4 hj5 hm5 hAt hBt er RX RY OX OY HM hR
        generalize sameD d (rd_T27 xs i) (rd_T27 ys i) = sb at CS hstep
        cases sb
        · have e1 : sameL (sameD d) xs ys = false := hstep
          clear hstep
          go_wp2_with (go_at_call 82; refine (CS.out _ _).mono ?_; rintro e w' ⟨rfl, hb4⟩; have HB4 := Lib.hid (below_step (HBA.out _ _) hb4); clear hb4)
          go_ret
          exact ⟨by rw [e1]; rfl, HB4.out⟩
        · have HM2 := Aside0.mk (show sameL (sameD d) (xs.drop (i + 1).toNat) (ys.drop (i + 1).toNat) = sameL (sameD d) xs ys by rw [en]; exact hstep.symm)
          clear hstep
          go_wp2_with (go_at_call 82; refine (CS.out _ _).mono ?_; rintro e w' ⟨rfl, hb4⟩; have HB4 := Aside0.mk (below_step (HBA.out _ _) hb4); clear hb4)
          go_roundg k2
          case measure => omega
          case rel => exact ⟨i + 1, rfl, HI2, HM2, HB4⟩
  · have n0 : ((xs.length : Int) != (ys.length : Int)) = true := by rw [bne_iff_ne]; omega
    have e1 : ∀ (xs ys : List V), xs.length ≠ ys.length → sameL (sameD d) xs ys = false := by
      intro xs
      induction xs with
      | nil => intro ys h; cases ys with
        | nil => exact absurd rfl h
        | cons y ys => rfl
      | cons x xs ihx => intro ys h; cases ys with
        | nil => rfl
        | cons y ys => show (_ && _) = false; rw [ihx ys (fun hh => h (by simp [hh]))]; simp
    rw [e1 xs ys hn]
    clear e1
    go_enter Tryz.func100, Tryz.ntmps100
    go_wp2
    go_ret
    exact ⟨rfl, Below.refl _ _⟩
end Go.Proofs.YtdghnfmhcnlppaaGreatDoor.Values
namespace Go.Proofs.YtdghnfmhcnlppaaGreatDoor.Values
open Go.RowKit Go.Proofs.YtdghnfmhcnlppaaGreatDoor.Q Go.Proofs.YtdghnfmhcnlppaaGreatDoor.Real Go.Proofs.YtdghnfmhcnlppaaGreatDoor.RealPure Go.Proofs.YtdghnfmhcnlppaaGreatDoorW.PrintWords Go.Proofs.YtdghnfmhcnlppaaGreatDoorW.PrintLast Go.Proofs.YtdghnfmhcnlppaaGreatDoorW.PrintMore
set_option linter.unusedSimpArgs false
set_option linter.unusedVariables false

theorem equal_total (l l' : List ByteArray) (hl : l.length < 1099511627776) (hn : l.length = l'.length) : ∀ m i, i + m = l.length → K.slices_Equal_string_string.l0 (m + 1) l l' (l.length : Int) (i : Int) = some (eqFrom l l' m i)
  | 0, i, h => by
    unfold K.slices_Equal_string_string.l0
    rw [if_neg (by omega)]
    rfl
  | m + 1, i, h => by
    have ih := equal_total l l' hl hn m (i + 1) (by omega)
    unfold K.slices_Equal_string_string.l0
    rw [if_pos (by omega), if_pos (by omega), if_pos (by omega), if_pos (by omega)]
    show _ = some (((l.getD i ByteArray.empty).toList == (l'.getD i ByteArray.empty).toList) && eqFrom l l' m (i + 1))
    have e1 : ∀ z : List ByteArray, rdOf ByteArray.empty z (i : Int) = z.getD i ByteArray.empty := fun _ => rfl
    have e2 : wrap64 ((i : Int) + 1) = ((i + 1 : Nat) : Int) := by rw [wrap_small _ (by omega) (by omega)]; rfl
    rw [e1, e1, e2, ih]
    by_cases c : (l.getD i ByteArray.empty).toList = (l'.getD i ByteArray.empty).toList
    · rw [if_pos c, beq_iff_eq.2 c]; rfl
    · rw [if_neg c, beq_eq_false_iff_ne.2 c]; rfl
theorem equal_calls (A : Option Addr) (c : Nat) (l : List ByteArray) (A' : Option Addr) (c' : Nat) (l' : List ByteArray) (w : World) (hr : Kd.C Kd.string w A l.length l) (hc : l.length ≤ c) (hr' : Kd.C Kd.string w A' l'.length l') (hc' : l'.length ≤ c') (hl : l.length < 1099511627776) :
    Calls Tryz.prog 99 #[.slice A l.length c, .slice A' l'.length c'] w fun e w' => e = .returned (.bool (equalB l l')) ∧ Drawn0 w w' := by
  refine K.slices_Equal_string_string.calls (l.length + 1) A c l A' c' l' (equalB l l') w hr hc hr' hc' ?_
  unfold K.slices_Equal_string_string.f equalB
  by_cases hn : l.length = l'.length
  · rw [if_pos (by omega), decide_eq_true hn]
    exact equal_total l l' hl hn l.length 0 (by omega)
  · rw [if_neg (by omega), decide_eq_false hn]; rfl

set_option maxHeartbeats 8000000 in
set_option maxRecDepth 100000 in
theorem same_succ (d : Nat) (ih : SameC d) : SameC (d + 1) := by
  intro x y A4 c4 A5 c5 B4 d4 B5 d5 w hx hy h h'
  have hu27 := Tryz.underlying27
  obtain ⟨x0, x1, x2, x3, x4⟩ := hx
  obtain ⟨y0, y1, y2, y3, y4⟩ := hy
  have H0 := Lib.hid h
  have H1 := Lib.hid h'
  have CR := Lib.hid (fun W => sameReal_calls x.f2 y.f2 W x0 x1 y0 y1)
  have CE := Lib.hid (fun W (hb : Below w.heap.size w W) => equal_calls A5 c5 x.f5 B5 d5 y.f5 W (Kd.C_below h.k5 hb) h.l5 (Kd.C_below h'.k5 hb) h'.l5 x2)
  have CF := Lib.hid (fun W (hb : Below w.heap.size w W) => equalFunc_calls d ih x.f4 y.f4 A4 c4 B4 d4 W x4 y4 x3 (Kd.C_below h.k4 hb) (Kd.C_below h'.k4 hb))
  clear h h' x0 x1 x2 x3 x4 y0 y1 y2 y3 y4 ih
  show Calls _ _ _ _ fun e w' => e = .returned (.bool (if x.f0 == y.f0 then (if x.f0 == 3 then sameRealB x.f2 y.f2 else (x.f1 == y.f1 && x.f3.toList == y.f3.toList) && equalB x.f5 y.f5 && sameL (sameD d) x.f4 y.f4) else false)) ∧ Below w.heap.size w w'
  generalize sameRealB x.f2 y.f2 = sr at CR ⊢
  generalize equalB x.f5 y.f5 = se at CE ⊢
  generalize sameL (sameD d) x.f4 y.f4 = sl at CF ⊢
  obtain ⟨ke, hke⟩ : ∃ q, (x.f0 == y.f0) = q := ⟨_, rfl⟩
  have hkn : (x.f0 != y.f0) = !ke := by rw [← hke]; rfl
  obtain ⟨k3, hk3⟩ : ∃ q, (x.f0 == 3) = q := ⟨_, rfl⟩
  obtain ⟨q1, hq1⟩ : ∃ q, (x.f1 == y.f1) = q := ⟨_, rfl⟩
  obtain ⟨q2, hq2⟩ : ∃ q, (x.f3.toList == y.f3.toList) = q := ⟨_, rfl⟩
  rw [hke, hk3, hq1, hq2]
  go_enter Tryz.func82, Tryz.ntmps82
  go_upto_region 1 with (first | ((with_reducible refine gate_dst (N := 2) rfl ?_); (try (refine gate_guard (by rfl) ?_; dsimp only)); refine box_event ?hg (N := 2) ?hd (cs := #[.int .i64 x.f0, .int .i64 x.f1, .int .u64 x.f2, .string x.f3, .slice A4 x.f4.length c4, .slice A5 x.f5.length c5]) (t := 27) ?hr ?_; (case hd => rfl); (case hg => rfl); (case hr => first | (go_simp; done) | (go_simp; rfl)); intro gb hg w3 hbox hb; have BK := Lib.hid hbox; have HB := Lib.hid hb; clear hb hbox hg) | ((with_reducible refine gate_dst (N := 3) rfl ?_); (try (refine gate_guard (by rfl) ?_; dsimp only)); refine box_event ?hg (N := 3) ?hd (cs := #[.int .i64 y.f0, .int .i64 y.f1, .int .u64 y.f2, .string y.f3, .slice B4 y.f4.length d4, .slice B5 y.f5.length d5]) (t := 27) ?hr ?_; (case hd => rfl); (case hg => rfl); (case hr => first | (go_simp; done) | (go_simp; rfl)); intro gb2 hg2 w4 hbox2 hb2; have G0 := Lib.hid ((At.of_box BK.out).below hb2); have G1 := Lib.hid (At.of_box hbox2); have HBB := Lib.hid (below_step HB.out hb2); clear hb2 hbox2 hg2))
  obtain ⟨g0, g1, g2, g3, g4, g5⟩ := G0.out
  obtain ⟨i0, i1, i2, i3, i4, i5⟩ := G1.out
  cases ke
  · go_wp2
    all_goals (first | (go_ret; exact ⟨rfl, HBB.out⟩))
  cases k3
  · cases q1
    · go_wp2
      all_goals (first | (go_ret; exact ⟨rfl, HBB.out⟩))
    cases q2
    · go_wp2
      all_goals (first | (go_ret; exact ⟨rfl, HBB.out⟩))
    cases se
    · go_wp2_with (go_at_call 99; refine (CE.out _ HBB.out).mono ?_; rintro e w' ⟨rfl, ⟨m_, rfl⟩⟩)
      all_goals (first | (go_ret; exact ⟨rfl, pw_below_drewN HBB.out _⟩))
    · go_wp2_with (first | (go_at_call 99; refine (CE.out _ HBB.out).mono ?_; rintro e w' ⟨rfl, ⟨m_, rfl⟩⟩) | (go_at_call 100; refine (CF.out _ (pw_below_drewN HBB.out _)).mono ?_; rintro e w' ⟨rfl, hb9⟩; have HB9 := Lib.hid (below_step (pw_below_drewN HBB.out _) hb9); clear hb9))
      all_goals (first | (go_ret; exact ⟨rfl, HB9.out⟩))
  · go_wp2_with (go_at_call 98; refine (CR.out _).mono ?_; rintro e w' ⟨rfl, ⟨m_, rfl⟩⟩)
    all_goals (first | (go_ret; exact ⟨rfl, pw_below_drewN HBB.out _⟩))
theorem same_all : ∀ d, SameC d
  | 0 => same_zero
  | d + 1 => same_succ d (same_all d)
end Go.Proofs.YtdghnfmhcnlppaaGreatDoor.Values
namespace Go.Proofs.YtdghnfmhcnlppaaGreatDoor.Values
open Go.RowKit Go.Proofs.YtdghnfmhcnlppaaGreatDoor.Q Go.Proofs.YtdghnfmhcnlppaaGreatDoor.Real Go.Proofs.YtdghnfmhcnlppaaGreatDoor.RealPure Go.Proofs.YtdghnfmhcnlppaaGreatDoorW.PrintWords Go.Proofs.YtdghnfmhcnlppaaGreatDoorW.PrintLast Go.Proofs.YtdghnfmhcnlppaaGreatDoorW.PrintMore
set_option linter.unusedSimpArgs false
set_option linter.unusedVariables false

/-- The words of a tree are words, to so many levels. -/
def rngD : Nat → V → Prop
  | 0, _ => True
  | d + 1, x => 0 ≤ x.f2 ∧ x.f2 < 2 ^ 64 ∧ ∀ z ∈ x.f4, rngD d z

theorem len_of_own {x : V} (h : ownB x = true) : x.f4.length ≤ 64 ∧ x.f5.length ≤ 64 := by
  unfold ownB plainB at h
  simp only [Bool.and_eq_true, decide_eq_true_eq] at h
  refine ⟨h.1.2, ?_⟩
  by_cases h6 : x.f0 = 6
  · have h64 := h.1.2
    have hk := h.2
    rw [h6] at hk
    simp at hk
    omega
  · have e6 : (x.f0 == 6) = false := beq_eq_false_iff_ne.2 h6
    have := h.1.1.2
    rw [e6] at this
    simp at this
    rw [this]; decide

theorem may_each (f : V → Int → Bool × Int) : ∀ (ys : List V) (l : Int), (mayL f ys l).1 = true → ∀ z ∈ ys, ∃ l', (f z l').1 = true
  | [], l, _, z, hz => by cases hz
  | y :: ys, l, h, z, hz => by
    unfold mayL at h
    split at h
    · rename_i hq
      rcases List.mem_cons.1 hz with rfl | hz
      · exact ⟨l, hq⟩
      · exact may_each f ys _ h z hz
    · cases h
theorem ok_of_may : ∀ d x l, (mayD d x l).1 = true → rngD d x → okD d x
  | 0, x, l, h, _ => by cases h
  | d + 1, x, l, h, hr => by
    unfold mayD at h
    split at h
    · cases h
    · split at h
      · rename_i ho
        have hl := len_of_own ho
        exact ⟨hr.1, hr.2.1, by omega, by omega, fun z hz => by
          obtain ⟨l', hl'⟩ := may_each _ _ _ h z hz
          exact ok_of_may d z l' hl' (hr.2.2 z hz)⟩
      · cases h

set_option maxHeartbeats 8000000 in
set_option maxRecDepth 100000 in
theorem Same_calls (x y : V) (A4 : Option Addr) (c4 : Nat) (A5 : Option Addr) (c5 : Nat) (B4 : Option Addr) (d4 : Nat) (B5 : Option Addr) (d5 : Nat) (w : World) (h : Rows4 w x A4 c4 A5 c5) (h' : Rows4 w y B4 d4 B5 d5) (hx : rngD 8 x) (hy : rngD 8 y) :
    Calls Tryz.prog 64 #[arg x A4 c4 A5 c5, arg y B4 d4 B5 d5] w fun e w' => e = .returned (.bool (mayB x && mayB y && sameD 8 x y)) ∧ Below w.heap.size w w' := by
  have hu27 := Tryz.underlying27
  have H0 := Lib.hid h
  have H1 := Lib.hid h'
  have CM1 := Lib.hid (May_calls x A4 c4 A5 c5)
  have CM2 := Lib.hid (May_calls y B4 d4 B5 d5)
  have CS := Lib.hid (fun (hmx : mayB x = true) (hmy : mayB y = true) W (hb : Below w.heap.size w W) => same_all 8 x y A4 c4 A5 c5 B4 d4 B5 d5 W (ok_of_may 8 x _ hmx hx) (ok_of_may 8 y _ hmy hy) (h.below hb) (h'.below hb))
  clear h h' hx hy
  obtain ⟨ml, hml⟩ : ∃ q, mayB x = q := ⟨_, rfl⟩
  obtain ⟨mr, hmr⟩ : ∃ q, mayB y = q := ⟨_, rfl⟩
  rw [hml] at CM1 CS ⊢; rw [hmr] at CM2 CS ⊢
  clear hml hmr
  go_enter Tryz.func64, Tryz.ntmps64
  go_upto_region 1 with (first | ((with_reducible refine gate_dst (N := 2) rfl ?_); (try (refine gate_guard (by rfl) ?_; dsimp only)); refine box_event ?hg (N := 2) ?hd (cs := #[.int .i64 x.f0, .int .i64 x.f1, .int .u64 x.f2, .string x.f3, .slice A4 x.f4.length c4, .slice A5 x.f5.length c5]) (t := 27) ?hr ?_; (case hd => rfl); (case hg => rfl); (case hr => first | (go_simp; done) | (go_simp; rfl)); intro gb hg w3 hbox hb; have BK := Lib.hid hbox; have HB := Lib.hid hb; clear hb hbox hg) | ((with_reducible refine gate_dst (N := 3) rfl ?_); (try (refine gate_guard (by rfl) ?_; dsimp only)); refine box_event ?hg (N := 3) ?hd (cs := #[.int .i64 y.f0, .int .i64 y.f1, .int .u64 y.f2, .string y.f3, .slice B4 y.f4.length d4, .slice B5 y.f5.length d5]) (t := 27) ?hr ?_; (case hd => rfl); (case hg => rfl); (case hr => first | (go_simp; done) | (go_simp; rfl)); intro gb2 hg2 w4 hbox2 hb2; have G0 := Lib.hid ((At.of_box BK.out).below hb2); have G1 := Lib.hid (At.of_box hbox2); have HBB := Lib.hid (below_step HB.out hb2); clear hb2 hbox2 hg2))
  obtain ⟨g0, g1, g2, g3, g4, g5⟩ := G0.out
  obtain ⟨i0, i1, i2, i3, i4, i5⟩ := G1.out
  cases ml
  · go_wp2_with (first | (go_at_call 35; (with_reducible refine (CM1.out _ (H0.out.below HBB.out)).mono ?_); rintro e w5 ⟨rfl, hb5⟩; have G0' := Lib.hid (G0.out.below hb5); have G1' := Lib.hid (G1.out.below hb5); have HB5 := Lib.hid (below_step HBB.out hb5); clear hb5; obtain ⟨g0, g1, g2, g3, g4, g5⟩ := G0'.out; obtain ⟨i0, i1, i2, i3, i4, i5⟩ := G1'.out) | (go_at_call 35; (with_reducible refine (CM2.out _ (H1.out.below HB5.out)).mono ?_); rintro e w6 ⟨rfl, hb6⟩; have G0'' := Lib.hid (G0'.out.below hb6); have G1'' := Lib.hid (G1'.out.below hb6); have HB6 := Lib.hid (below_step HB5.out hb6); clear hb6; obtain ⟨g0, g1, g2, g3, g4, g5⟩ := G0''.out; obtain ⟨i0, i1, i2, i3, i4, i5⟩ := G1''.out))
    all_goals (first | (go_ret; exact ⟨rfl, HB5.out⟩))
  cases mr
  · go_wp2_with (first | (go_at_call 35; (with_reducible refine (CM1.out _ (H0.out.below HBB.out)).mono ?_); rintro e w5 ⟨rfl, hb5⟩; have G0' := Lib.hid (G0.out.below hb5); have G1' := Lib.hid (G1.out.below hb5); have HB5 := Lib.hid (below_step HBB.out hb5); clear hb5; obtain ⟨g0, g1, g2, g3, g4, g5⟩ := G0'.out; obtain ⟨i0, i1, i2, i3, i4, i5⟩ := G1'.out) | (go_at_call 35; (with_reducible refine (CM2.out _ (H1.out.below HB5.out)).mono ?_); rintro e w6 ⟨rfl, hb6⟩; have G0'' := Lib.hid (G0'.out.below hb6); have G1'' := Lib.hid (G1'.out.below hb6); have HB6 := Lib.hid (below_step HB5.out hb6); clear hb6; obtain ⟨g0, g1, g2, g3, g4, g5⟩ := G0''.out; obtain ⟨i0, i1, i2, i3, i4, i5⟩ := G1''.out))
    all_goals (first | (go_ret; exact ⟨rfl, HB6.out⟩))
  · have CS' := Lib.hid (CS.out rfl rfl)
    go_wp2_with (first | (go_at_call 35; (with_reducible refine (CM1.out _ (H0.out.below HBB.out)).mono ?_); rintro e w5 ⟨rfl, hb5⟩; have G0' := Lib.hid (G0.out.below hb5); have G1' := Lib.hid (G1.out.below hb5); have HB5 := Lib.hid (below_step HBB.out hb5); clear hb5; obtain ⟨g0, g1, g2, g3, g4, g5⟩ := G0'.out; obtain ⟨i0, i1, i2, i3, i4, i5⟩ := G1'.out) | (go_at_call 35; (with_reducible refine (CM2.out _ (H1.out.below HB5.out)).mono ?_); rintro e w6 ⟨rfl, hb6⟩; have G0'' := Lib.hid (G0'.out.below hb6); have G1'' := Lib.hid (G1'.out.below hb6); have HB6 := Lib.hid (below_step HB5.out hb6); clear hb6; obtain ⟨g0, g1, g2, g3, g4, g5⟩ := G0''.out; obtain ⟨i0, i1, i2, i3, i4, i5⟩ := G1''.out) | (go_at_call 82; refine (CS'.out _ HB6.out).mono ?_; rintro e w' ⟨rfl, hb9⟩; have HB9 := Lib.hid (below_step HB6.out hb9); clear hb9))
    all_goals (first | (go_ret; exact ⟨rfl, HB9.out⟩))
end Go.Proofs.YtdghnfmhcnlppaaGreatDoor.Values
