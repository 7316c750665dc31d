/- The document's answer about words as a command, walked. -/
import Derived.Test.YthaapadjlknieaaPipeRefB
namespace Go.Proofs.Ythaapadjlknieaa.Pipe
open Go.RowKit Go.Proofs.Ythaapadjlknieaa.Q Go.Proofs.YthaapadjlknieaaW.PrintWords Go.Proofs.YthaapadjlknieaaW.PrintLast Go.Proofs.YthaapadjlknieaaW.PrintMore
set_option linter.unusedSimpArgs false
set_option linter.unusedVariables false

/-- What command answers: where it is one, the command, of rows of its own. -/
def CmdR (w : World) (o : Option Cm) (e : Ending) (w' : World) : Prop := ∃ s V n cv, e = .returned (.tuple #[.agg #[.string s, .slice V n cv], .bool o.isSome]) ∧ (∀ c, o = some c → s = c.f0 ∧ n = c.f1.length ∧ kA.R 41 w' w.heap.size (fun _ => True) (.slice V n cv) c.f1) ∧ Below w.heap.size w w'
theorem cmdr_none {w w' : World} {s : ByteArray} {V : Option Addr} {n cv : Nat} (hb : Below w.heap.size w w') : CmdR w none (.returned (.tuple #[.agg #[.string s, .slice V n cv], .bool false])) w' :=
  ⟨s, V, n, cv, rfl, fun c h => (by cases h), hb⟩
def contG (g : List Ag → Option Cm) (acc : List Ag) (ws : List Wd) : Option Cm := match argsR ws with | some m => g (acc ++ m) | none => none
theorem contG_nil (g : List Ag → Option Cm) (acc : List Ag) : contG g acc [] = g acc := by unfold contG argsR; simp
theorem contG_no (g : List Ag → Option Cm) (acc : List Ag) (x : Wd) (ws : List Wd) (h : argR x = none) : contG g acc (x :: ws) = none := by unfold contG argsR; rw [h]
theorem contG_yes (g : List Ag → Option Cm) (acc : List Ag) (x : Wd) (ws : List Wd) {a : Ag} (h : argR x = some a) : contG g acc (x :: ws) = contG g (acc ++ [a]) ws := by
  unfold contG
  conv => lhs; unfold argsR
  rw [h]
  cases argsR ws with
  | none => rfl
  | some m => simp
theorem cmdR_bare {ws : List Wd} {b : Bool} (h0 : ws ≠ []) (h : headF ws = false) : cmdR ws b = contG (fun l => if b = true ∧ l.length = 1 then some ⟨⟨#[]⟩, l⟩ else none) [] ws := by
  unfold cmdR contG
  rw [if_neg (by cases ws <;> simp_all), h, if_neg (by decide)]
  cases argsR ws <;> rfl
theorem cmdR_fn {x : Wd} {ws : List Wd} {b : Bool} (h : headF (x :: ws) = true) (h3 : x.f3 = 0) (h2 : x.f2.length = 0) : cmdR (x :: ws) b = contG (fun l => some ⟨x.f1, l⟩) [] ws := by
  unfold cmdR contG
  rw [if_neg (by simp), if_pos h, if_pos ⟨h3, h2⟩]
  show (argsR ws).map (fun l => (⟨x.f1, l⟩ : Cm)) = _
  cases argsR ws <;> rfl
theorem cmdR_odd {x : Wd} {ws : List Wd} {b : Bool} (h : headF (x :: ws) = true) (h2 : ¬ (x.f3 = 0 ∧ x.f2.length = 0)) : cmdR (x :: ws) b = none := by
  unfold cmdR
  rw [if_neg (by simp), if_pos h]
  exact if_neg h2
theorem fn_some {s : ByteArray} (h : fnB s = true) : s.toList.isEmpty = false := by
  unfold fnB fnL at h
  simp only [Bool.or_eq_true, beq_iff_eq] at h
  rcases h with ((((((h | h) | h) | h) | h) | h) | h) | h <;> rw [h] <;> rfl
theorem two_cells {W : World} {g : Nat} {t : TypeId} {a0 a1 : Value} (h : W.heap[g]? = some (.cells #[a0, a1] t (0, 0))) : W.cell? ⟨g, 0, none⟩ = some a0 ∧ W.cell? ⟨g, 1, none⟩ = some a1 :=
  ⟨(blk_cell h 0).trans rfl, (blk_cell h 1).trans rfl⟩
theorem two_put {W : World} {g : Nat} {t : TypeId} {a0 a1 : Value} (h : W.heap[g]? = some (.cells #[a0, a1] t (0, 0))) (b0 b1 : Value) : ((W.setCell ⟨g, 0, none⟩ b0).setCell ⟨g, 1, none⟩ b1).heap[g]? = some (.cells #[b0, b1] t (0, 0)) :=
  blk_put (blk_put h 0 _ rfl) 1 _ rfl
theorem two_other {W : World} {g : Nat} (b0 b1 : Value) (k : Nat) (hk : k ≠ g) : ((W.setCell ⟨g, 0, none⟩ b0).setCell ⟨g, 1, none⟩ b1).heap[k]? = W.heap[k]? :=
  (Below.heap_setCell _ _ _ k hk).trans (Below.heap_setCell _ _ _ k hk)
theorem two_below {w W : World} {g : Nat} (hg : w.heap.size ≤ g) (h : Below w.heap.size w W) (b0 b1 : Value) : Below w.heap.size w ((W.setCell ⟨g, 0, none⟩ b0).setCell ⟨g, 1, none⟩ b1) := below_set (below_set h hg) hg
theorem AtW.of_elemL {w : World} {A : Option Addr} {n : Nat} {xs : List Wd} (h : Kd.C kW w A n xs) (i : Int) (h0 : 0 ≤ i) (h1 : i < n) : ∃ ad A2 c2, A = some ad ∧ AtW w (ad.add (i.toNat * 4)) (rd_T45 xs i) A2 c2 ∧ Kd.C Kd.string w A2 (rd_T45 xs i).f2.length (rd_T45 xs i).f2 ∧ (rd_T45 xs i).f2.length ≤ c2 := by
  obtain ⟨ad, A2, c2, e, g0, g1, g2, g3, l2, k2⟩ := at_T45 h i h0 h1
  exact ⟨ad, A2, c2, e, ⟨g0, g1, g2, g3⟩, k2, l2⟩
theorem refArg_len (x : Wd) : (refArgF x).1.f2.length ≤ x.f2.length := by
  unfold refArgF
  repeat' split
  all_goals simp
theorem refarg_at (y : Wd) (A2 : Option Addr) (c2 : Nat) (w0 w : World) (a : Ag) (q : Bool) (hq : refArgF y = (a, q)) (hb0 : Below w0.heap.size w0 w) (hr : Kd.C Kd.string w0 A2 y.f2.length y.f2) (hc : y.f2.length ≤ c2) (hl : y.f2.length ≤ 8388608) (hs : y.f1.size ≤ 140737488355328) (hss : ∀ s ∈ y.f2, s.size ≤ 140737488355328) :
    Calls Try.prog 33 #[argW y A2 c2] w (fun e w' => ∃ A' c', e = .returned (.tuple #[.agg #[.int .i64 a.f0, .string a.f1, .slice A' a.f2.length c', .int .i64 a.f3, .string a.f4], .bool q]) ∧ Kd.C Kd.string w0 A' a.f2.length a.f2 ∧ Below w.heap.size w w') := by
  have h := refarg_calls y A2 c2 w0 w hb0 hr hc hl hs hss
  rw [hq] at h
  exact h.mono (fun e w' ⟨A', c', he, hk, _, hb⟩ => ⟨A', c', he, hk, hb⟩)
/-- Sizes that the answer bears. -/
def sizedW (x : Wd) : Prop := x.f2.length ≤ 1048576 ∧ x.f1.size ≤ 1048576 ∧ ∀ s ∈ x.f2, s.size ≤ 1048576

set_option maxHeartbeats 32000000 in
set_option maxRecDepth 100000 in
theorem command_calls (A : Option Addr) (c : Nat) (l : List Wd) (b : Bool) (w : World) (hA : Kd.C kW w A l.length l) (hc : l.length ≤ c) (hl : l.length ≤ 1048576) (hp : ∀ x ∈ l, sizedW x) :
    Calls Try.prog 20 #[.slice A l.length c, .bool b] w (CmdR w (cmdR l b)) := by
  have hu := Try.underlying38
  have HA := Lib.hid hA; have HC := Lib.hid hc; have HL := Lib.hid hl; have HP := Lib.hid hp
  clear hA hc hl hp
  obtain ⟨R, hR⟩ : ∃ R, cmdR l b = R := ⟨_, rfl⟩
  rw [hR]
  obtain ⟨n, hn⟩ : ∃ n, l.length = n := ⟨_, rfl⟩
  have HN := Lib.hid hn
  rw [hn]
  clear hn
  have HAn := Lib.hid (by have h := HA.out; rw [HN.out] at h; exact h : Kd.C kW w A n l)
  go_enter Try.func20, Try.ntmps20
  go_upto_region 1 with (fail)
  have Z1 := Lib.hid (blk_new w zerosC)
  have B1 := Lib.hid (below_alloc (Below.refl _ w) zerosC)
  have S1 := Lib.hid (show w.heap.size < (w.alloc zerosC).heap.size by simp)
  generalize hw1 : w.alloc zerosC = w1 at *
  clear hw1
  by_cases h0 : n = 0
  · subst h0
    have hnil : l = [] := List.eq_nil_of_length_eq_zero HN.out
    subst hnil
    have hRn : R = none := by rw [← hR]; rfl
    subst hRn
    go_wp2_with (first | ((with_reducible refine gate_store (t := 38) (p := 4) rfl ?_); refine row_event (by rfl) (by rfl) (by rfl) (by rfl) (by rfl) (by with_reducible first | exact Z1.out) (by exact sizeC) (by rfl) (by first | rfl | simp [Value.oneCell']) ?_; intro w8 hz8 ho8 hb8; have Z8 := Lib.hid hz8; have HO8 := Lib.hid ho8; have HB8 := Lib.hid (hb8 (Nat.le_refl _) (by with_reducible first | exact B1.out)); clear hb8 ho8 hz8))
    refine bodyPost_ret (results_cell_row_tmp rfl _ _ w.heap.size 38 _ (0, 0) _ rfl Z8.out hu rfl (by exact sizeC)) rfl ?_
    exact cmdr_none HB8.out
  have hne0 : (n == 0) = false := beq_eq_false_iff_ne.2 h0
  have hne1 : ((n : Int) == 0) = false := beq_eq_false_iff_ne.2 (by omega)
  go_upto_region 4 with (fail)
  have Z2 := Lib.hid (blk_alloc Z1.out zerosC)
  have O2 := Lib.hid (blk_new w1 zerosC)
  have B2 := Lib.hid (below_alloc B1.out zerosC)
  have S2 := Lib.hid (show w1.heap.size < (w1.alloc zerosC).heap.size by simp)
  obtain ⟨go, hgo⟩ : ∃ go, w1.heap.size = go := ⟨_, rfl⟩
  rw [hgo] at S1 O2 S2
  rw [hgo]
  clear Z1 B1
  generalize hw2 : w1.alloc zerosC = w2 at *
  clear hw2 hgo w1
  have NE := Lib.hid (show w.heap.size ≠ go from Nat.ne_of_lt S1.out)
  have o0 : w2.cell? ⟨go, 0, none⟩ = some (.string ⟨#[]⟩) := (blk_cell O2.out 0).trans rfl
  have o1 : w2.cell? ⟨go, 1, none⟩ = some (.slice none 0 0) := (blk_cell O2.out 1).trans rfl
  have fo0 := blk_frozen O2.out 0
  obtain ⟨ad, E2, e2, hae, hAt0, hk2⟩ := AtW.of_elem HAn.out 0 (by decide) (by omega)
  subst hae
  have hz : (0 : Int).toNat * 4 = 0 := rfl
  rw [hz, addr_zero] at hAt0
  have hd0 := rd_W l 0 (by rw [HN.out]; omega)
  rw [List.drop_zero] at hd0
  have hc0 : ((0 : Nat) : Int) = 0 := rfl
  rw [hc0] at hd0
  obtain ⟨x, hx⟩ : ∃ x, rd_T45 l 0 = x := ⟨_, rfl⟩
  rw [hx] at hAt0 hk2 hd0
  have hhead : headF l = (x.f0 == 0 && fnB x.f1) := by rw [hd0]; rfl
  obtain ⟨a0, a1, a2, a3⟩ := hAt0.below B2.out
  have CF := Lib.hid (rfn_calls x.f1)
  have q0n := eq_true (show 0 < n by omega)
  have HD0 := Lib.hid hd0
  have HLn := Lib.hid (by have := HL.out; have := HN.out; omega : n ≤ 1048576)
  clear hd0 hAt0 hk2 hz hc0 hx HL
  by_cases hh : headF l = true
  · rw [hhead] at hh
    simp only [Bool.and_eq_true] at hh
    obtain ⟨t0, tf⟩ := hh
    have hfs := fn_some tf
    have hHF : headF (x :: l.drop 1) = true := by show (x.f0 == 0 && fnB x.f1) = true; rw [t0, tf]; rfl
    rw [tf] at CF
    clear tf hhead
    cases h3 : (x.f3 == 0) with
    | false =>
      have hRn : R = none := by rw [← hR, HD0.out]; exact cmdR_odd hHF (fun h => by rw [h.1] at h3; cases h3)
      subst hRn
      have h3n : (x.f3 != 0) = true := by rw [bne, h3]; rfl
      have ZO := Lib.hid (fun nd => (show ((w2.drewN nd).setCell ⟨go, 0, none⟩ (.string x.f1)).heap[w.heap.size]? = some zerosC from blk_far (blk_drewN Z2.out nd) NE.out _)); have BO := Lib.hid (fun nd => (show Below w.heap.size w ((w2.drewN nd).setCell ⟨go, 0, none⟩ (.string x.f1)) from below_set (pw_below_drewN B2.out nd) (by have := S1.out; omega))); have OO := Lib.hid (fun nd => (show ((w2.drewN nd).setCell ⟨go, 0, none⟩ (.string x.f1)).heap[go]? = some (.cells #[.string x.f1, .slice none 0 0] 38 (0, 0)) from blk_put (blk_drewN O2.out nd) 0 _ rfl)); go_wp2_with (first | (go_at_call 25; refine (CF.out _).mono ?_; rintro e w' ⟨rfl, ⟨nd, rfl⟩⟩; have y0 := (blk_cell (OO.out nd) 0).trans rfl; have y1 := (blk_cell (OO.out nd) 1).trans rfl) | ((with_reducible refine gate_store (t := 38) (p := 4) rfl ?_); refine row_event (by rfl) (by rfl) (by rfl) (by rfl) (by rfl) (by with_reducible first | exact ZO.out _) (by exact sizeC) (by rfl) (by first | rfl | simp [Value.oneCell']) ?_; intro w8 hz8 ho8 hb8; have Z8 := Lib.hid hz8; have HO8 := Lib.hid ho8; have HB8 := Lib.hid (hb8 (Nat.le_refl _) (by with_reducible first | exact BO.out _)); clear hb8 ho8 hz8))
      refine bodyPost_ret (results_cell_row_tmp rfl _ _ w.heap.size 38 _ (0, 0) _ rfl Z8.out hu rfl (by exact sizeC)) rfl ?_
      exact cmdr_none HB8.out
    | true =>
      have h3n : (x.f3 != 0) = false := by rw [bne, h3]; rfl
      have e3 : x.f3 = 0 := beq_iff_eq.1 h3
      obtain ⟨m2, hm2⟩ : ∃ m, x.f2.length = m := ⟨_, rfl⟩
      rw [hm2] at a2
      cases h2 : (m2 == 0) with
      | false =>
        have hRn : R = none := by rw [← hR, HD0.out]; exact cmdR_odd hHF (fun h => by rw [hm2] at h; rw [h.2] at h2; cases h2)
        subst hRn
        have h2n : ((m2 : Int) != 0) = true := bne_iff_ne.2 (by have := beq_eq_false_iff_ne.1 h2; omega)
        have h2m : (m2 != 0) = true := by rw [bne, h2]; rfl
        have h2e : (m2 = 0) = False := eq_false (beq_eq_false_iff_ne.1 h2)
        have ZO := Lib.hid (fun nd => (show ((w2.drewN nd).setCell ⟨go, 0, none⟩ (.string x.f1)).heap[w.heap.size]? = some zerosC from blk_far (blk_drewN Z2.out nd) NE.out _)); have BO := Lib.hid (fun nd => (show Below w.heap.size w ((w2.drewN nd).setCell ⟨go, 0, none⟩ (.string x.f1)) from below_set (pw_below_drewN B2.out nd) (by have := S1.out; omega))); have OO := Lib.hid (fun nd => (show ((w2.drewN nd).setCell ⟨go, 0, none⟩ (.string x.f1)).heap[go]? = some (.cells #[.string x.f1, .slice none 0 0] 38 (0, 0)) from blk_put (blk_drewN O2.out nd) 0 _ rfl)); go_wp2_with (first | (go_at_call 25; refine (CF.out _).mono ?_; rintro e w' ⟨rfl, ⟨nd, rfl⟩⟩; have y0 := (blk_cell (OO.out nd) 0).trans rfl; have y1 := (blk_cell (OO.out nd) 1).trans rfl) | ((with_reducible refine gate_store (t := 38) (p := 4) rfl ?_); refine row_event (by rfl) (by rfl) (by rfl) (by rfl) (by rfl) (by with_reducible first | exact ZO.out _) (by exact sizeC) (by rfl) (by first | rfl | simp [Value.oneCell']) ?_; intro w8 hz8 ho8 hb8; have Z8 := Lib.hid hz8; have HO8 := Lib.hid ho8; have HB8 := Lib.hid (hb8 (Nat.le_refl _) (by with_reducible first | exact BO.out _)); clear hb8 ho8 hz8))
        refine bodyPost_ret (results_cell_row_tmp rfl _ _ w.heap.size 38 _ (0, 0) _ rfl Z8.out hu rfl (by exact sizeC)) rfl ?_
        exact cmdr_none HB8.out
      | true =>
        have h2n : ((m2 : Int) != 0) = false := bne_eq_false_iff_eq.2 (by have := beq_iff_eq.1 h2; omega)
        have h2m : (m2 != 0) = false := by rw [bne, h2]; rfl
        have hg : R = contG (fun l => some ⟨x.f1, l⟩) [] (l.drop 1) := by rw [← hR, HD0.out]; exact cmdR_fn hHF e3 (by rw [hm2]; exact beq_iff_eq.1 h2)
        clear hR hHF e3
        generalize x.f1 = fn at *
        go_wp2_with (first | (go_at_call 25; refine (CF.out _).mono ?_; rintro e w' ⟨rfl, ⟨nd, rfl⟩⟩))
        have ZS := Lib.hid (show ((w2.drewN nd).setCell ⟨go, 0, none⟩ (.string fn)).heap[w.heap.size]? = some zerosC from blk_far (blk_drewN Z2.out nd) NE.out _)
        have OS := Lib.hid (show ((w2.drewN nd).setCell ⟨go, 0, none⟩ (.string fn)).heap[go]? = some (.cells #[.string fn, .slice none 0 0] 38 (0, 0)) from blk_put (blk_drewN O2.out nd) 0 _ rfl)
        have BS := Lib.hid (show Below w.heap.size w ((w2.drewN nd).setCell ⟨go, 0, none⟩ (.string fn)) from below_set (pw_below_drewN B2.out nd) (by have := S1.out; omega))
        have SS := Lib.hid (show w2.heap.size ≤ ((w2.drewN nd).setCell ⟨go, 0, none⟩ (.string fn)).heap.size by simp)
        clear a0 a1 a2 a3 o0 o1 fo0 CF h3n h2n h2m h3 h2
        have HG0 := Lib.hid hg.symm; clear hg
        go_loopg [8] (n - 1) (fun kq v8 wr => ∃ (i : Nat) (acc : List Ag) (u : Value), v8 = .int .i64 (i : Int) ∧ Aside0 (i + kq = n) ∧ Aside0 (acc.length ≤ i) ∧ Aside0 (contG (fun l => some ⟨fn, l⟩) acc (l.drop i) = R) ∧ Aside0 (kA.R 41 wr w2.heap.size (fun _ => True) u acc) ∧ Aside0 (wr.heap[w.heap.size]? = some zerosC) ∧ Aside0 (wr.heap[go]? = some (.cells #[.string fn, u] 38 (0, 0))) ∧ Aside0 (Below w.heap.size w wr) ∧ Aside0 (w2.heap.size ≤ wr.heap.size))
        case atStart => exact ⟨1, [], .slice none 0 0, rfl, ⟨by omega⟩, ⟨Nat.zero_le _⟩, ⟨HG0.out⟩, ⟨Kd.R_nil _ _ _ _ _⟩, ⟨ZS.out⟩, ⟨OS.out⟩, ⟨BS.out⟩, ⟨SS.out⟩⟩
        case round =>
          clear ZS OS BS SS HG0
          obtain ⟨i, acc, u, rfl, HI, HAC, HR, HO, BZ, BO, HB, HS⟩ := hrel
          have hi := HI.out
          obtain ⟨Au, cu, rfl⟩ := Kd.R_slice HO.out
          cases gk with
          | zero =>
            have hlt : decide (i < n) = false := decide_eq_false (by omega)
            have hr := HR.out
            rw [List.drop_of_length_le (by rw [HN.out]; omega), contG_nil] at hr
            clear hi
            go_wp2
            have hRs : R = some ⟨fn, acc⟩ := hr.symm
            subst hRs
            have BXD := Lib.hid (blk_drew BO.out)
            have ZD := Lib.hid (blk_drew BZ.out)
            have BD := Lib.hid (below_drew HB.out)
            have SD := Lib.hid (show wr.heap.size ≤ wr.drew.heap.size by simp)
            have HOD := Lib.hid (Kd.R_below HO.out (below_drew (Below.refl _ _)))
            generalize hWD : wr.drew = wd at *
            refine wp_region_held_drew (S := (fun w' => w'.heap[go]? = some (.cells #[.string fn, .slice Au acc.length cu] 38 (0, 0)))) (by kernel_rfl) ?_ (fun hHeld => ?_)
            · rw [hWD]; exact BXD.out
            rw [hWD] at hHeld ⊢
            clear hWD
            have z0 := (blk_cell ZD.out 0).trans rfl; have fz0 := blk_frozen ZD.out 0
            have z1 := (blk_cell ZD.out 1).trans rfl; have fz1 := blk_frozen ZD.out 1
            refine wpAnyH_take (i := 0) (oi := ⟨some 75, _, _, _, _, _⟩) (v := ?_) rfl (by kernel_rfl) (by kernel_rfl) (by kernel_rfl) (fun _ _ _ h => h) ?_ (by assumption) ?_; rotate_left; (focus (refine Or.inl ⟨rfl, ?_⟩; intro w hSw; (try dsimp only at hSw); obtain ⟨s0, s1⟩ := two_cells hSw; go_simp; (try with_reducible rfl); done)); (try simp only [Act.put, List.setIfInBounds_toArray, List.set_cons_zero, List.set_cons_succ])
            refine wpAnyH_take (i := 1) (oi := ⟨some 76, _, _, _, _, _⟩) (v := ?_) rfl (by kernel_rfl) (by kernel_rfl) (by kernel_rfl) (fun _ _ _ h => h) ?_ (by assumption) ?_; rotate_left; (focus (refine Or.inl ⟨rfl, ?_⟩; intro w hSw; (try dsimp only at hSw); obtain ⟨s0, s1⟩ := two_cells hSw; go_simp; (try with_reducible rfl); done)); (try simp only [Act.put, List.setIfInBounds_toArray, List.set_cons_zero, List.set_cons_succ])
            refine wpAnyH_take (i := 2) (oi := ⟨some 77, _, _, _, _, _⟩) (v := ?_) rfl (by kernel_rfl) (by kernel_rfl) (by kernel_rfl) (fun _ _ _ h => h) ?_ (by assumption) ?_; rotate_left; (focus (refine Or.inl ⟨rfl, ?_⟩; intro w hSw; (try dsimp only at hSw); obtain ⟨s0, s1⟩ := two_cells hSw; go_simp; (try with_reducible rfl); done)); (try simp only [Act.put, List.setIfInBounds_toArray, List.set_cons_zero, List.set_cons_succ])
            refine wpAnyH_take (i := 3) (oi := ⟨some 78, _, _, _, _, _⟩) (v := ?_) rfl (by kernel_rfl) (by kernel_rfl) (by kernel_rfl) (fun _ _ _ h => h) ?_ (by assumption) ?_; rotate_left; (focus (refine Or.inl ⟨rfl, ?_⟩; intro w hSw; (try dsimp only at hSw); obtain ⟨s0, s1⟩ := two_cells hSw; go_simp; (try with_reducible rfl); done)); (try simp only [Act.put, List.setIfInBounds_toArray, List.set_cons_zero, List.set_cons_succ])
            refine wpAnyH_take (i := 4) (oi := ⟨some 79, _, _, _, _, _⟩) (v := ?_) rfl (by kernel_rfl) (by kernel_rfl) (by kernel_rfl) (fun _ _ _ h => h) ?_ (by assumption) ?_; rotate_left; (focus (refine Or.inl ⟨rfl, ?_⟩; intro w hSw; (try dsimp only at hSw); obtain ⟨s0, s1⟩ := two_cells hSw; go_simp; (try with_reducible rfl); done)); (try simp only [Act.put, List.setIfInBounds_toArray, List.set_cons_zero, List.set_cons_succ])
            (first | (refine wpAnyH_take (i := 5) (oi := ⟨some 80, _, _, _, _, _⟩) (v := ?_) rfl (by kernel_rfl) (by kernel_rfl) (by kernel_rfl) (fun _ _ _ h => h) ?_ (by assumption) ?_; rotate_left; (focus (refine Or.inl ⟨rfl, ?_⟩; intro w hSw; (try dsimp only at hSw); obtain ⟨s0, s1⟩ := two_cells hSw; go_simp; (try with_reducible rfl); done))) | (refine wpAnyH_take (i := 5) (oi := ⟨some 80, _, _, _, _, _⟩) (v := undef) rfl (by kernel_rfl) (by kernel_rfl) (by kernel_rfl) (fun _ _ _ h => h) (Or.inr ⟨rfl, rfl⟩) (by assumption) ?_)); (try simp only [Act.put, List.setIfInBounds_toArray, List.set_cons_zero, List.set_cons_succ])
            (first | (refine wpAnyH_take (i := 6) (oi := ⟨some 81, _, _, _, _, _⟩) (v := ?_) rfl (by kernel_rfl) (by kernel_rfl) (by kernel_rfl) (fun _ _ _ h => h) ?_ (by assumption) ?_; rotate_left; (focus (refine Or.inl ⟨rfl, ?_⟩; intro w hSw; (try dsimp only at hSw); obtain ⟨s0, s1⟩ := two_cells hSw; go_simp; (try with_reducible rfl); done))) | (refine wpAnyH_take (i := 6) (oi := ⟨some 81, _, _, _, _, _⟩) (v := undef) rfl (by kernel_rfl) (by kernel_rfl) (by kernel_rfl) (fun _ _ _ h => h) (Or.inr ⟨rfl, rfl⟩) (by assumption) ?_)); (try simp only [Act.put, List.setIfInBounds_toArray, List.set_cons_zero, List.set_cons_succ])
            (first | (refine wpAnyH_take (i := 7) (oi := ⟨some 82, _, _, _, _, _⟩) (v := ?_) rfl (by kernel_rfl) (by kernel_rfl) (by kernel_rfl) (fun _ _ _ h => h) ?_ (by assumption) ?_; rotate_left; (focus (refine Or.inl ⟨rfl, ?_⟩; intro w hSw; (try dsimp only at hSw); obtain ⟨s0, s1⟩ := two_cells hSw; go_simp; (try with_reducible rfl); done))) | (refine wpAnyH_take (i := 7) (oi := ⟨some 82, _, _, _, _, _⟩) (v := undef) rfl (by kernel_rfl) (by kernel_rfl) (by kernel_rfl) (fun _ _ _ h => h) (Or.inr ⟨rfl, rfl⟩) (by assumption) ?_)); (try simp only [Act.put, List.setIfInBounds_toArray, List.set_cons_zero, List.set_cons_succ])
            (first | (refine wpAnyH_take (i := 8) (oi := ⟨some 83, _, _, _, _, _⟩) (v := ?_) rfl (by kernel_rfl) (by kernel_rfl) (by kernel_rfl) (fun _ _ _ h => h) ?_ (by assumption) ?_; rotate_left; (focus (refine Or.inl ⟨rfl, ?_⟩; intro w hSw; (try dsimp only at hSw); obtain ⟨s0, s1⟩ := two_cells hSw; go_simp; (try with_reducible rfl); done))) | (refine wpAnyH_take (i := 8) (oi := ⟨some 83, _, _, _, _, _⟩) (v := undef) rfl (by kernel_rfl) (by kernel_rfl) (by kernel_rfl) (fun _ _ _ h => h) (Or.inr ⟨rfl, rfl⟩) (by assumption) ?_)); (try simp only [Act.put, List.setIfInBounds_toArray, List.set_cons_zero, List.set_cons_succ])
            (first | (refine wpAnyH_take (i := 9) (oi := ⟨some 84, _, _, _, _, _⟩) (v := ?_) rfl (by kernel_rfl) (by kernel_rfl) (by kernel_rfl) (fun _ _ _ h => h) ?_ (by assumption) ?_; rotate_left; (focus (refine Or.inl ⟨rfl, ?_⟩; intro w hSw; (try dsimp only at hSw); obtain ⟨s0, s1⟩ := two_cells hSw; go_simp; (try with_reducible rfl); done))) | (refine wpAnyH_take (i := 9) (oi := ⟨some 84, _, _, _, _, _⟩) (v := undef) rfl (by kernel_rfl) (by kernel_rfl) (by kernel_rfl) (fun _ _ _ h => h) (Or.inr ⟨rfl, rfl⟩) (by assumption) ?_)); (try simp only [Act.put, List.setIfInBounds_toArray, List.set_cons_zero, List.set_cons_succ])
            (first | (refine wpAnyH_take (i := 10) (oi := ⟨some 85, _, _, _, _, _⟩) (v := ?_) rfl (by kernel_rfl) (by kernel_rfl) (by kernel_rfl) (fun _ _ _ h => h) ?_ (by assumption) ?_; rotate_left; (focus (refine Or.inl ⟨rfl, ?_⟩; intro w hSw; (try dsimp only at hSw); obtain ⟨s0, s1⟩ := two_cells hSw; go_simp; (try with_reducible rfl); done))) | (refine wpAnyH_take (i := 10) (oi := ⟨some 85, _, _, _, _, _⟩) (v := undef) rfl (by kernel_rfl) (by kernel_rfl) (by kernel_rfl) (fun _ _ _ h => h) (Or.inr ⟨rfl, rfl⟩) (by assumption) ?_)); (try simp only [Act.put, List.setIfInBounds_toArray, List.set_cons_zero, List.set_cons_succ])
            (first | (refine wpAnyH_take (i := 11) (oi := ⟨some 86, _, _, _, _, _⟩) (v := ?_) rfl (by kernel_rfl) (by kernel_rfl) (by kernel_rfl) (fun _ _ _ h => h) ?_ (by assumption) ?_; rotate_left; (focus (refine Or.inl ⟨rfl, ?_⟩; intro w hSw; (try dsimp only at hSw); obtain ⟨s0, s1⟩ := two_cells hSw; go_simp; (try with_reducible rfl); done))) | (refine wpAnyH_take (i := 11) (oi := ⟨some 86, _, _, _, _, _⟩) (v := undef) rfl (by kernel_rfl) (by kernel_rfl) (by kernel_rfl) (fun _ _ _ h => h) (Or.inr ⟨rfl, rfl⟩) (by assumption) ?_)); (try simp only [Act.put, List.setIfInBounds_toArray, List.set_cons_zero, List.set_cons_succ])
            refine wpAnyH_take (i := 12) (oi := ⟨some 87, _, _, _, _, _⟩) (v := ?_) rfl (by kernel_rfl) (by kernel_rfl) (by kernel_rfl) (fun _ _ _ h => h) ?_ (by assumption) ?_; rotate_left; (focus (refine Or.inl ⟨rfl, ?_⟩; intro w hSw; (try dsimp only at hSw); obtain ⟨s0, s1⟩ := two_cells hSw; go_simp; (try with_reducible rfl); done)); (try simp only [Act.put, List.setIfInBounds_toArray, List.set_cons_zero, List.set_cons_succ])
            refine wpAnyH_ready (rs := [13]) (by kernel_rfl) (by simp) ?_
            refine AllReadyH.cons (o := ⟨none, _, _, _, _, _⟩) rfl (fun K hK => ?_) AllReadyH.nil
            go_simp
            refine hK.out _ _ ?_ (fun hHeld2 => ?_)
            · with_reducible exact (two_other _ _ _ (Ne.symm NE.out)).trans BXD.out
            clear hK K hHeld; have hHeld := hHeld2; clear hHeld2; (try simp only [Act.put, List.setIfInBounds_toArray, List.set_cons_zero, List.set_cons_succ])
            refine wpAnyH_take (i := 14) (oi := ⟨some 5, _, _, _, _, _⟩) (v := ?_) rfl (by kernel_rfl) (by kernel_rfl) (by kernel_rfl) (fun _ _ _ h => h) ?_ (by assumption) ?_; rotate_left; (focus (refine Or.inl ⟨rfl, ?_⟩; intro w hSw; (try dsimp only at hSw); obtain ⟨s0, s1⟩ := two_cells hSw; go_simp; (try with_reducible rfl); done)); (try simp only [Act.put, List.setIfInBounds_toArray, List.set_cons_zero, List.set_cons_succ])
            refine wpAnyH_done (by kernel_rfl) ?_ _
            (try go_wp2)
            refine bodyPost_ret (results_cell_row_tmp rfl _ _ w.heap.size 38 #[.string fn, .slice Au acc.length cu] (0, 0) _ rfl (two_put ZD.out _ _) hu rfl (by exact sizeC)) rfl ?_
            exact ⟨_, _, _, _, rfl, fun c h => (by injection h with h; subst h; exact ⟨rfl, rfl, Kd.R_lower (R_base HOD.out (fun k hk _ => two_other _ _ k (by have := S1.out; have := S2.out; omega))) (below_size B2.out)⟩), two_below (Nat.le_refl _) BD.out _ _⟩
          | succ k2 =>
            have hlt : decide (i < n) = true := decide_eq_true (by omega)
            have hltn := eq_true (show i < n by omega)
            have hlt' : (i : Int) < (n : Int) := by omega
            have hi0 : (0 : Int) ≤ (i : Int) := by omega
            obtain ⟨ad', E2, e2, hade, hAt, hk2, hle⟩ := AtW.of_elemL HAn.out (i : Int) hi0 hlt'
            have hade' := Option.some.inj hade
            subst hade'
            clear hade
            have q0 := eq_true hi0
            have q1 := eq_true hlt'
            have wi' : IntKind.i64.wrap ((i : Int) + 1) = (i : Int) + 1 := by rw [i64_w]; exact wrap_small _ (by have := HLn.out; omega) (by have := HLn.out; omega)
            have hstep := rd_W l i (by rw [HN.out]; omega)
            have hm := HP.out _ (rd_mem l (i : Int) hi0 (by rw [HN.out]; exact hlt'))
            have hr := HR.out
            rw [hstep] at hr
            have ti : (i : Int).toNat = i := by omega
            rw [ti] at hAt
            generalize rd_T45 l (i : Int) = y at *
            obtain ⟨⟨a, q⟩, hq⟩ : ∃ p, refArgF y = p := ⟨_, rfl⟩
            have HLA := Lib.hid (by have h1 := refArg_len y; rw [hq] at h1; exact Nat.le_trans h1 hm.1 : a.f2.length ≤ 1048576)
            have CA := Lib.hid (refarg_at y E2 e2 w wr a q hq HB.out hk2 hle (by have := hm.1; omega) (by have := hm.2.1; omega) (fun s hs => by have := hm.2.2 s hs; omega))
            have hag := refArg_eq y
            rw [hq] at hag
            obtain ⟨b0, b1, b2, b3⟩ := hAt.below HB.out
            clear hAt hk2 hm hstep HR hi hq
            cases q with
            | false =>
              have hno : argR y = none := hag.trans (if_neg (by simp))
              rw [contG_no _ _ _ _ hno] at hr
              have hRn : R = none := hr.symm
              clear hr
              subst hRn
              clear hag hno
              go_wp2_with (first | (go_at_call 33; refine CA.out.mono ?_; rintro e w5 ⟨A5, c5, rfl, hk5, hb5⟩; have HK5 := Lib.hid hk5; have BZ5 := Lib.hid (blk_below BZ.out hb5); have BO5 := Lib.hid (blk_below BO.out hb5); have HB5 := Lib.hid (below_step HB.out hb5); have BN := Lib.hid (blk_new w5 zerosA); have NL := Lib.hid (Nat.ne_of_lt (blk_lt BZ5.out)); have NLo := Lib.hid (Nat.ne_of_lt (blk_lt BO5.out)); have LE := Lib.hid (below_size HB5.out); have HW5 := Lib.hid (below_size hb5); have HO5 := Lib.hid (Kd.R_below HO.out hb5); clear hk5 hb5) | ((with_reducible refine gate_store (t := 41) (p := 9) rfl ?_); refine row_event (by rfl) (by rfl) (by rfl) (by rfl) (by rfl) BN.out (by exact sizeA) (by rfl) (by first | rfl | simp [Value.oneCell']) ?_; intro w6 hz6 ho6 hb6; have Z6 := Lib.hid hz6; have BZ6 := Lib.hid ((ho6 _ NL.out).trans (blk_alloc BZ5.out zerosA)); have BO6 := Lib.hid ((ho6 _ NLo.out).trans (blk_alloc BO5.out zerosA)); have HB6 := Lib.hid (hb6 LE.out (below_alloc HB5.out zerosA)); have HB56 := Lib.hid (hb6 (Nat.le_refl _) (below_alloc (Below.refl w5.heap.size w5) zerosA)); have S6 := Lib.hid (blk_lt Z6.out); have d2 : w6.cell? ⟨w5.heap.size, 2, none⟩ = some (.slice A5 a.f2.length c5) := (blk_cell Z6.out 2).trans rfl; have u0 := (blk_cell BO6.out 0).trans rfl; have u1 := (blk_cell BO6.out 1).trans rfl; clear hb6 ho6 hz6) | ((with_reducible refine gate_store (t := 38) (p := 4) rfl ?_); refine row_event (by rfl) (by rfl) (by rfl) (by rfl) (by rfl) (by with_reducible first | exact BZ6.out) (by exact sizeC) (by rfl) (by first | rfl | simp [Value.oneCell']) ?_; intro w8 hz8 ho8 hb8; have Z8 := Lib.hid hz8; have HO8 := Lib.hid ho8; have HB8 := Lib.hid (hb8 (Nat.le_refl _) (by with_reducible first | exact HB6.out)); clear hb8 ho8 hz8))
              refine bodyPost_ret (results_cell_row_tmp rfl _ _ w.heap.size 38 _ (0, 0) _ rfl Z8.out hu rfl (by exact sizeC)) rfl ?_
              exact cmdr_none HB8.out
            | true =>
              have hyes : argR y = some a := hag.trans (if_pos rfl)
              rw [contG_yes _ _ _ _ hyes] at hr
              have HR2 := Aside0.mk hr
              clear hag hyes hr
              go_wp2_with (first | (go_at_call 33; refine CA.out.mono ?_; rintro e w5 ⟨A5, c5, rfl, hk5, hb5⟩; have HK5 := Lib.hid hk5; have BZ5 := Lib.hid (blk_below BZ.out hb5); have BO5 := Lib.hid (blk_below BO.out hb5); have HB5 := Lib.hid (below_step HB.out hb5); have BN := Lib.hid (blk_new w5 zerosA); have NL := Lib.hid (Nat.ne_of_lt (blk_lt BZ5.out)); have NLo := Lib.hid (Nat.ne_of_lt (blk_lt BO5.out)); have LE := Lib.hid (below_size HB5.out); have HW5 := Lib.hid (below_size hb5); have HO5 := Lib.hid (Kd.R_below HO.out hb5); clear hk5 hb5) | ((with_reducible refine gate_store (t := 41) (p := 9) rfl ?_); refine row_event (by rfl) (by rfl) (by rfl) (by rfl) (by rfl) BN.out (by exact sizeA) (by rfl) (by first | rfl | simp [Value.oneCell']) ?_; intro w6 hz6 ho6 hb6; have Z6 := Lib.hid hz6; have BZ6 := Lib.hid ((ho6 _ NL.out).trans (blk_alloc BZ5.out zerosA)); have BO6 := Lib.hid ((ho6 _ NLo.out).trans (blk_alloc BO5.out zerosA)); have HB6 := Lib.hid (hb6 LE.out (below_alloc HB5.out zerosA)); have HB56 := Lib.hid (hb6 (Nat.le_refl _) (below_alloc (Below.refl w5.heap.size w5) zerosA)); have S6 := Lib.hid (blk_lt Z6.out); have d2 : w6.cell? ⟨w5.heap.size, 2, none⟩ = some (.slice A5 a.f2.length c5) := (blk_cell Z6.out 2).trans rfl; have u0 := (blk_cell BO6.out 0).trans rfl; have u1 := (blk_cell BO6.out 1).trans rfl; clear hb6 ho6 hz6) | ((with_reducible refine gate_dst (N := 64) rfl ?_); refine Kd.R_lit Kd.string _ 9 ?hg (N := 64) ?hd (xs := ([] : List ByteArray)) (inner := []) (ok := fun _ => True) (okp := fun _ => True) ?hr ?hp (fun _ hk => hk) trivial (Below.refl _ _) (Nat.le_refl _) (by simp) ?_; (case hd => rfl); (case hg => rfl); (case hr => first | (go_simp; done) | (go_simp; rfl)); (case hp => exact (Reps.none _ _)); intro v7 w7 ho7 hb7 hg7 hn7; have HO7 := Lib.hid ho7; have HB67 := Lib.hid hb7; clear d2; have d2 : w7.cell? ⟨w5.heap.size, 2, none⟩ = some (.slice A5 a.f2.length c5) := (blk_cell (blk_below Z6.out HB67.out) 2).trans rfl; clear u0 u1 ho7 hb7 hg7 hn7) | ((with_reducible refine gate_builtin (b := .append) (xs := #[.tmp 64, .tmp 66]) rfl ?_); at_builtin; refine Kd.R_append_rows Kd.string (w0 := w7) w6.heap.size rfl (.tmp 64) (.tmp 66) 39 9 (.string ⟨#[]⟩) 16 rfl Try.underlying39 info9 rfl (by decide) (by omega) v7 [] a.f2 _ _ _ (fun _ => True) (fun _ => False) rfl rfl ?aO ?aR (fun _ _ h => h) (fun _ h => h.elim) ?aF ?aB ?aS ?aL ?_; (case aR => exact Kd.C_below HK5.out (below_step HB6.out HB67.out)); (case aB => exact Below.refl _ _); (case aF => exact (fun _ _ => trivial)); (case aO => exact HO7.out); (case aS => exact below_size HB67.out); (case aL => have h1 := HLA.out; simp; omega); intro v8 w8 hr8 hb8 hg8 hat8; rw [List.nil_append] at hr8; obtain ⟨A8, c8, rfl⟩ := Kd.R_slice hr8; have HB68 := Lib.hid (HB67.out.trans hb8); have Z8 := Lib.hid (blk_below Z6.out HB68.out); have fz8 := blk_frozen Z8.out 2; have d8 : w8.cell? ⟨w5.heap.size, 2, none⟩ = some (.slice A5 a.f2.length c5) := (blk_cell Z8.out 2).trans rfl; have HB59 := Lib.hid (show Below w5.heap.size w5 (w8.setCell ⟨w5.heap.size, 2, none⟩ (.slice A8 a.f2.length c8)) from below_set (below_step HB56.out HB68.out) (Nat.le_refl _)); have ZP := Lib.hid (show (w8.setCell ⟨w5.heap.size, 2, none⟩ (.slice A8 a.f2.length c8)).heap[w5.heap.size]? = some (.cells #[.int .i64 a.f0, .string a.f1, .slice A8 a.f2.length c8, .int .i64 a.f3, .string a.f4] 41 (0, 0)) from blk_put Z8.out 2 _ rfl); have y0 := (blk_cell ZP.out 0).trans rfl; have y1 := (blk_cell ZP.out 1).trans rfl; have y2 := (blk_cell ZP.out 2).trans rfl; have y3 := (blk_cell ZP.out 3).trans rfl; have y4 := (blk_cell ZP.out 4).trans rfl; have BO8 := Lib.hid (blk_below BO5.out HB59.out); have y5 := (blk_cell BO8.out 1).trans rfl; have HR8 := Lib.hid (R_base hr8 (fun k hk _ => (Below.heap_setCell w8 ⟨w5.heap.size, 2, none⟩ (.slice A8 a.f2.length c8) k (by have := S6.out; show k ≠ w5.heap.size; omega)))); clear d2 hr8 hb8 hg8 hat8) | ((with_reducible refine gate_builtin (b := .append) (xs := #[.tmp 70, .tmp 72]) rfl ?_); at_builtin; refine Kd.R_append kA (w0 := (w8.setCell ⟨w5.heap.size, 2, none⟩ (.slice A8 a.f2.length c8))) w2.heap.size rfl (.tmp 70) (.tmp 72) 36 41 (.agg #[(.int .i64 0), (.string ⟨#[]⟩), (.slice none 0 0), (.int .i64 0), (.string ⟨#[]⟩)]) 72 rfl Try.underlying36 info41 rfl (by decide) (by omega) (.slice Au acc.length cu) acc a [.int .i64 a.f0, .string a.f1, .slice A8 a.f2.length c8, .int .i64 a.f3, .string a.f4] (fun _ => True) (fun k => wr.heap.size ≤ k) rfl (by show Value.slice (some ⟨w8.heap.size, 0, none⟩) 1 1 = _; simp) ?aP ?aK (fun _ _ => trivial) ?aO (Below.refl _ _) ?aS ?aL ?_; (case aP => exact k41_mkM _ _ _ a (Kd.R_mono (Kd.R_lower (Kd.R_bound HR8.out) (by have h1 := HS.out; have h2 := HW5.out; have h3 := S6.out; omega)) (fun k hk => by have h1 := hk.2.1; have h2 := HW5.out; have h3 := S6.out; omega))); (case aK => exact (fun k hk => ⟨trivial, fun he => by have := (R_lt HO.out k he.symm).2; omega⟩)); (case aO => exact (Kd.R_below HO5.out HB59.out)); (case aS => exact (by have h1 := HS.out; have h2 := HW5.out; have h3 := below_size HB59.out; omega)); (case aL => have h1 := HAC.out; have h2 := HLn.out; have h3 := HI.out; omega); intro v9 w9 hr9 hb9 hg9 hat9; obtain ⟨A9, c9, rfl⟩ := Kd.R_slice hr9; have hla : (acc ++ [a]).length = acc.length + 1 := (by simp); rw [hla] at hr9; clear hla; have HR9 := Lib.hid hr9; have HB9 := Lib.hid ((below_step HB5.out HB59.out).trans (hb9.mono (by have := S1.out; have := S2.out; omega))); have SZ9 := Lib.hid (by have h1 := HS.out; have h2 := HW5.out; have h3 := below_size HB59.out; have h4 := hb9.size; omega : w2.heap.size ≤ w9.heap.size); have BZ9 := Lib.hid (blk_grown (blk_below BZ5.out HB59.out) hg9 (fun he => by have h1 := (R_lt HO.out _ he.symm).1; have h2 := S1.out; have h3 := S2.out; omega)); have BO9 := Lib.hid (blk_grown BO8.out hg9 (fun he => by have h1 := (R_lt HO.out _ he.symm).1; have h3 := S2.out; omega)); have r1 : w9.cell? ⟨go, 1, none⟩ = some (.slice Au acc.length cu) := (blk_cell BO9.out 1).trans rfl; have fr1 := blk_frozen BO9.out 1; clear y0 y1 y2 y3 y4 y5 hr9 hb9 hg9 hat9))
              go_roundg k2
              case measure => omega
              case rel => exact ⟨i + 1, acc ++ [a], .slice A9 (acc.length + 1) c9, by simp, ⟨by have := HI.out; omega⟩, ⟨by rw [List.length_append]; have := HAC.out; simp; omega⟩, HR2, ⟨R_base HR9.out (fun k hk _ => Below.heap_setCell _ _ _ k (by have := S2.out; show k ≠ go; omega))⟩, ⟨blk_far BZ9.out NE.out _⟩, ⟨blk_put BO9.out 1 _ rfl⟩, ⟨below_set HB9.out (by have := S1.out; omega)⟩, ⟨by simpa using SZ9.out⟩⟩
  · have hh' : headF l = false := by simpa using hh
    have hnel : l ≠ [] := fun h => by rw [h] at HN; exact h0 HN.out.symm
    have hg := hR.symm.trans (cmdR_bare (b := b) hnel hh')
    rw [hhead] at hh'
    have hcase : ((x.f0 == 0) = true ∧ fnB x.f1 = false) ∨ (x.f0 == 0) = false := by
      cases h1 : (x.f0 == 0)
      · exact .inr rfl
      · rw [h1] at hh'; exact .inl ⟨rfl, by simpa using hh'⟩
    clear hh hh' hhead hR
    rcases hcase with ⟨t0, tf⟩ | t0
    · rw [tf] at CF
      clear tf
      go_wp2_with (first | (go_at_call 25; refine (CF.out _).mono ?_; rintro e w' ⟨rfl, ⟨nd, rfl⟩⟩))
      have ZS := Lib.hid (blk_drewN Z2.out nd)
      have OS := Lib.hid (blk_drewN O2.out nd)
      have BS := Lib.hid (pw_below_drewN B2.out nd)
      have SS := Lib.hid (show w2.heap.size ≤ (w2.drewN nd).heap.size by simp)
      clear a0 a1 a2 a3 o0 o1 fo0 CF
      have HG0 := Lib.hid hg.symm; clear hg
      go_loopg [8] (n - 0) (fun kq v8 wr => ∃ (i : Nat) (acc : List Ag) (u : Value), v8 = .int .i64 (i : Int) ∧ Aside0 (i + kq = n) ∧ Aside0 (acc.length ≤ i) ∧ Aside0 (contG (fun l => if b = true ∧ l.length = 1 then some ⟨⟨#[]⟩, l⟩ else none) acc (l.drop i) = R) ∧ Aside0 (kA.R 41 wr w2.heap.size (fun _ => True) u acc) ∧ Aside0 (wr.heap[w.heap.size]? = some zerosC) ∧ Aside0 (wr.heap[go]? = some (.cells #[.string (⟨#[]⟩ : ByteArray), u] 38 (0, 0))) ∧ Aside0 (Below w.heap.size w wr) ∧ Aside0 (w2.heap.size ≤ wr.heap.size))
      case atStart => exact ⟨0, [], .slice none 0 0, rfl, ⟨by omega⟩, ⟨Nat.zero_le _⟩, ⟨HG0.out⟩, ⟨Kd.R_nil _ _ _ _ _⟩, ⟨ZS.out⟩, ⟨OS.out⟩, ⟨BS.out⟩, ⟨SS.out⟩⟩
      case round =>
        clear ZS OS BS SS HG0
        obtain ⟨i, acc, u, rfl, HI, HAC, HR, HO, BZ, BO, HB, HS⟩ := hrel
        have hi := HI.out
        obtain ⟨Au, cu, rfl⟩ := Kd.R_slice HO.out
        cases gk with
        | zero =>
          have hlt : decide (i < n) = false := decide_eq_false (by omega)
          have hr := HR.out
          rw [List.drop_of_length_le (by rw [HN.out]; omega), contG_nil] at hr
          clear hi
          go_wp2
          cases b with
          | false =>
            have hRs : R = none := by rw [← hr]; rfl
            subst hRs
            have BXD := Lib.hid (blk_drew BO.out)
            have ZD := Lib.hid (blk_drew BZ.out)
            have BD := Lib.hid (below_drew HB.out)
            have SD := Lib.hid (show wr.heap.size ≤ wr.drew.heap.size by simp)
            have HOD := Lib.hid (Kd.R_below HO.out (below_drew (Below.refl _ _)))
            generalize hWD : wr.drew = wd at *
            refine wp_region_held_drew (S := (fun w' => w'.heap[go]? = some (.cells #[.string (⟨#[]⟩ : ByteArray), .slice Au acc.length cu] 38 (0, 0)))) (by kernel_rfl) ?_ (fun hHeld => ?_)
            · rw [hWD]; exact BXD.out
            rw [hWD] at hHeld ⊢
            clear hWD
            have z0 := (blk_cell ZD.out 0).trans rfl; have fz0 := blk_frozen ZD.out 0
            have z1 := (blk_cell ZD.out 1).trans rfl; have fz1 := blk_frozen ZD.out 1
            refine wpAnyH_take (i := 0) (oi := ⟨some 75, _, _, _, _, _⟩) (v := ?_) rfl (by kernel_rfl) (by kernel_rfl) (by kernel_rfl) (fun _ _ _ h => h) ?_ (by assumption) ?_; rotate_left; (focus (refine Or.inl ⟨rfl, ?_⟩; intro w hSw; (try dsimp only at hSw); obtain ⟨s0, s1⟩ := two_cells hSw; go_simp; (try with_reducible rfl); done)); (try simp only [Act.put, List.setIfInBounds_toArray, List.set_cons_zero, List.set_cons_succ])
            refine wpAnyH_take (i := 1) (oi := ⟨some 76, _, _, _, _, _⟩) (v := ?_) rfl (by kernel_rfl) (by kernel_rfl) (by kernel_rfl) (fun _ _ _ h => h) ?_ (by assumption) ?_; rotate_left; (focus (refine Or.inl ⟨rfl, ?_⟩; intro w hSw; (try dsimp only at hSw); obtain ⟨s0, s1⟩ := two_cells hSw; go_simp; (try with_reducible rfl); done)); (try simp only [Act.put, List.setIfInBounds_toArray, List.set_cons_zero, List.set_cons_succ])
            refine wpAnyH_take (i := 2) (oi := ⟨some 77, _, _, _, _, _⟩) (v := ?_) rfl (by kernel_rfl) (by kernel_rfl) (by kernel_rfl) (fun _ _ _ h => h) ?_ (by assumption) ?_; rotate_left; (focus (refine Or.inl ⟨rfl, ?_⟩; intro w hSw; (try dsimp only at hSw); obtain ⟨s0, s1⟩ := two_cells hSw; go_simp; (try with_reducible rfl); done)); (try simp only [Act.put, List.setIfInBounds_toArray, List.set_cons_zero, List.set_cons_succ])
            refine wpAnyH_take (i := 3) (oi := ⟨some 78, _, _, _, _, _⟩) (v := ?_) rfl (by kernel_rfl) (by kernel_rfl) (by kernel_rfl) (fun _ _ _ h => h) ?_ (by assumption) ?_; rotate_left; (focus (refine Or.inl ⟨rfl, ?_⟩; intro w hSw; (try dsimp only at hSw); obtain ⟨s0, s1⟩ := two_cells hSw; go_simp; (try with_reducible rfl); done)); (try simp only [Act.put, List.setIfInBounds_toArray, List.set_cons_zero, List.set_cons_succ])
            refine wpAnyH_take (i := 4) (oi := ⟨some 79, _, _, _, _, _⟩) (v := ?_) rfl (by kernel_rfl) (by kernel_rfl) (by kernel_rfl) (fun _ _ _ h => h) ?_ (by assumption) ?_; rotate_left; (focus (refine Or.inl ⟨rfl, ?_⟩; intro w hSw; (try dsimp only at hSw); obtain ⟨s0, s1⟩ := two_cells hSw; go_simp; (try with_reducible rfl); done)); (try simp only [Act.put, List.setIfInBounds_toArray, List.set_cons_zero, List.set_cons_succ])
            (first | (refine wpAnyH_take (i := 5) (oi := ⟨some 80, _, _, _, _, _⟩) (v := ?_) rfl (by kernel_rfl) (by kernel_rfl) (by kernel_rfl) (fun _ _ _ h => h) ?_ (by assumption) ?_; rotate_left; (focus (refine Or.inl ⟨rfl, ?_⟩; intro w hSw; (try dsimp only at hSw); obtain ⟨s0, s1⟩ := two_cells hSw; go_simp; (try with_reducible rfl); done))) | (refine wpAnyH_take (i := 5) (oi := ⟨some 80, _, _, _, _, _⟩) (v := undef) rfl (by kernel_rfl) (by kernel_rfl) (by kernel_rfl) (fun _ _ _ h => h) (Or.inr ⟨rfl, rfl⟩) (by assumption) ?_)); (try simp only [Act.put, List.setIfInBounds_toArray, List.set_cons_zero, List.set_cons_succ])
            (first | (refine wpAnyH_take (i := 6) (oi := ⟨some 81, _, _, _, _, _⟩) (v := ?_) rfl (by kernel_rfl) (by kernel_rfl) (by kernel_rfl) (fun _ _ _ h => h) ?_ (by assumption) ?_; rotate_left; (focus (refine Or.inl ⟨rfl, ?_⟩; intro w hSw; (try dsimp only at hSw); obtain ⟨s0, s1⟩ := two_cells hSw; go_simp; (try with_reducible rfl); done))) | (refine wpAnyH_take (i := 6) (oi := ⟨some 81, _, _, _, _, _⟩) (v := undef) rfl (by kernel_rfl) (by kernel_rfl) (by kernel_rfl) (fun _ _ _ h => h) (Or.inr ⟨rfl, rfl⟩) (by assumption) ?_)); (try simp only [Act.put, List.setIfInBounds_toArray, List.set_cons_zero, List.set_cons_succ])
            (first | (refine wpAnyH_take (i := 7) (oi := ⟨some 82, _, _, _, _, _⟩) (v := ?_) rfl (by kernel_rfl) (by kernel_rfl) (by kernel_rfl) (fun _ _ _ h => h) ?_ (by assumption) ?_; rotate_left; (focus (refine Or.inl ⟨rfl, ?_⟩; intro w hSw; (try dsimp only at hSw); obtain ⟨s0, s1⟩ := two_cells hSw; go_simp; (try with_reducible rfl); done))) | (refine wpAnyH_take (i := 7) (oi := ⟨some 82, _, _, _, _, _⟩) (v := undef) rfl (by kernel_rfl) (by kernel_rfl) (by kernel_rfl) (fun _ _ _ h => h) (Or.inr ⟨rfl, rfl⟩) (by assumption) ?_)); (try simp only [Act.put, List.setIfInBounds_toArray, List.set_cons_zero, List.set_cons_succ])
            (first | (refine wpAnyH_take (i := 8) (oi := ⟨some 83, _, _, _, _, _⟩) (v := ?_) rfl (by kernel_rfl) (by kernel_rfl) (by kernel_rfl) (fun _ _ _ h => h) ?_ (by assumption) ?_; rotate_left; (focus (refine Or.inl ⟨rfl, ?_⟩; intro w hSw; (try dsimp only at hSw); obtain ⟨s0, s1⟩ := two_cells hSw; go_simp; (try with_reducible rfl); done))) | (refine wpAnyH_take (i := 8) (oi := ⟨some 83, _, _, _, _, _⟩) (v := undef) rfl (by kernel_rfl) (by kernel_rfl) (by kernel_rfl) (fun _ _ _ h => h) (Or.inr ⟨rfl, rfl⟩) (by assumption) ?_)); (try simp only [Act.put, List.setIfInBounds_toArray, List.set_cons_zero, List.set_cons_succ])
            (first | (refine wpAnyH_take (i := 9) (oi := ⟨some 84, _, _, _, _, _⟩) (v := ?_) rfl (by kernel_rfl) (by kernel_rfl) (by kernel_rfl) (fun _ _ _ h => h) ?_ (by assumption) ?_; rotate_left; (focus (refine Or.inl ⟨rfl, ?_⟩; intro w hSw; (try dsimp only at hSw); obtain ⟨s0, s1⟩ := two_cells hSw; go_simp; (try with_reducible rfl); done))) | (refine wpAnyH_take (i := 9) (oi := ⟨some 84, _, _, _, _, _⟩) (v := undef) rfl (by kernel_rfl) (by kernel_rfl) (by kernel_rfl) (fun _ _ _ h => h) (Or.inr ⟨rfl, rfl⟩) (by assumption) ?_)); (try simp only [Act.put, List.setIfInBounds_toArray, List.set_cons_zero, List.set_cons_succ])
            (first | (refine wpAnyH_take (i := 10) (oi := ⟨some 85, _, _, _, _, _⟩) (v := ?_) rfl (by kernel_rfl) (by kernel_rfl) (by kernel_rfl) (fun _ _ _ h => h) ?_ (by assumption) ?_; rotate_left; (focus (refine Or.inl ⟨rfl, ?_⟩; intro w hSw; (try dsimp only at hSw); obtain ⟨s0, s1⟩ := two_cells hSw; go_simp; (try with_reducible rfl); done))) | (refine wpAnyH_take (i := 10) (oi := ⟨some 85, _, _, _, _, _⟩) (v := undef) rfl (by kernel_rfl) (by kernel_rfl) (by kernel_rfl) (fun _ _ _ h => h) (Or.inr ⟨rfl, rfl⟩) (by assumption) ?_)); (try simp only [Act.put, List.setIfInBounds_toArray, List.set_cons_zero, List.set_cons_succ])
            (first | (refine wpAnyH_take (i := 11) (oi := ⟨some 86, _, _, _, _, _⟩) (v := ?_) rfl (by kernel_rfl) (by kernel_rfl) (by kernel_rfl) (fun _ _ _ h => h) ?_ (by assumption) ?_; rotate_left; (focus (refine Or.inl ⟨rfl, ?_⟩; intro w hSw; (try dsimp only at hSw); obtain ⟨s0, s1⟩ := two_cells hSw; go_simp; (try with_reducible rfl); done))) | (refine wpAnyH_take (i := 11) (oi := ⟨some 86, _, _, _, _, _⟩) (v := undef) rfl (by kernel_rfl) (by kernel_rfl) (by kernel_rfl) (fun _ _ _ h => h) (Or.inr ⟨rfl, rfl⟩) (by assumption) ?_)); (try simp only [Act.put, List.setIfInBounds_toArray, List.set_cons_zero, List.set_cons_succ])
            refine wpAnyH_take (i := 12) (oi := ⟨some 87, _, _, _, _, _⟩) (v := ?_) rfl (by kernel_rfl) (by kernel_rfl) (by kernel_rfl) (fun _ _ _ h => h) ?_ (by assumption) ?_; rotate_left; (focus (refine Or.inl ⟨rfl, ?_⟩; intro w hSw; (try dsimp only at hSw); obtain ⟨s0, s1⟩ := two_cells hSw; go_simp; (try with_reducible rfl); done)); (try simp only [Act.put, List.setIfInBounds_toArray, List.set_cons_zero, List.set_cons_succ])
            refine wpAnyH_ready (rs := [13]) (by kernel_rfl) (by simp) ?_
            refine AllReadyH.cons (o := ⟨none, _, _, _, _, _⟩) rfl (fun K hK => ?_) AllReadyH.nil
            go_simp
            refine hK.out _ _ ?_ (fun hHeld2 => ?_)
            · with_reducible exact (two_other _ _ _ (Ne.symm NE.out)).trans BXD.out
            clear hK K hHeld; have hHeld := hHeld2; clear hHeld2; (try simp only [Act.put, List.setIfInBounds_toArray, List.set_cons_zero, List.set_cons_succ])
            refine wpAnyH_take (i := 14) (oi := ⟨some 5, _, _, _, _, _⟩) (v := ?_) rfl (by kernel_rfl) (by kernel_rfl) (by kernel_rfl) (fun _ _ _ h => h) ?_ (by assumption) ?_; rotate_left; (focus (refine Or.inl ⟨rfl, ?_⟩; intro w hSw; (try dsimp only at hSw); obtain ⟨s0, s1⟩ := two_cells hSw; go_simp; (try with_reducible rfl); done)); (try simp only [Act.put, List.setIfInBounds_toArray, List.set_cons_zero, List.set_cons_succ])
            refine wpAnyH_done (by kernel_rfl) ?_ _
            (try go_wp2)
            refine bodyPost_ret (results_cell_row_tmp rfl _ _ w.heap.size 38 #[.string (⟨#[]⟩ : ByteArray), .slice Au acc.length cu] (0, 0) _ rfl (two_put ZD.out _ _) hu rfl (by exact sizeC)) rfl ?_
            exact cmdr_none (two_below (Nat.le_refl _) BD.out _ _)
          | true =>
            obtain ⟨m1, hm1⟩ : ∃ m, acc.length = m := ⟨_, rfl⟩
            rw [hm1] at BO HO
            cases h1 : (m1 == 1) with
            | false =>
              have hRs : R = none := by rw [← hr]; exact if_neg (fun h => by rw [hm1] at h; rw [h.2] at h1; cases h1)
              subst hRs
              have h1i : ((m1 : Int) == 1) = false := beq_eq_false_iff_ne.2 (by have := beq_eq_false_iff_ne.1 h1; omega)
              have BXD := Lib.hid (blk_drew BO.out)
              have ZD := Lib.hid (blk_drew BZ.out)
              have BD := Lib.hid (below_drew HB.out)
              have SD := Lib.hid (show wr.heap.size ≤ wr.drew.heap.size by simp)
              have HOD := Lib.hid (Kd.R_below HO.out (below_drew (Below.refl _ _)))
              generalize hWD : wr.drew = wd at *
              refine wp_region_held_drew (S := (fun w' => w'.heap[go]? = some (.cells #[.string (⟨#[]⟩ : ByteArray), .slice Au m1 cu] 38 (0, 0)))) (by kernel_rfl) ?_ (fun hHeld => ?_)
              · rw [hWD]; exact BXD.out
              rw [hWD] at hHeld ⊢
              clear hWD
              have z0 := (blk_cell ZD.out 0).trans rfl; have fz0 := blk_frozen ZD.out 0
              have z1 := (blk_cell ZD.out 1).trans rfl; have fz1 := blk_frozen ZD.out 1
              refine wpAnyH_take (i := 0) (oi := ⟨some 75, _, _, _, _, _⟩) (v := ?_) rfl (by kernel_rfl) (by kernel_rfl) (by kernel_rfl) (fun _ _ _ h => h) ?_ (by assumption) ?_; rotate_left; (focus (refine Or.inl ⟨rfl, ?_⟩; intro w hSw; (try dsimp only at hSw); obtain ⟨s0, s1⟩ := two_cells hSw; go_simp; (try with_reducible rfl); done)); (try simp only [Act.put, List.setIfInBounds_toArray, List.set_cons_zero, List.set_cons_succ])
              refine wpAnyH_take (i := 1) (oi := ⟨some 76, _, _, _, _, _⟩) (v := ?_) rfl (by kernel_rfl) (by kernel_rfl) (by kernel_rfl) (fun _ _ _ h => h) ?_ (by assumption) ?_; rotate_left; (focus (refine Or.inl ⟨rfl, ?_⟩; intro w hSw; (try dsimp only at hSw); obtain ⟨s0, s1⟩ := two_cells hSw; go_simp; (try with_reducible rfl); done)); (try simp only [Act.put, List.setIfInBounds_toArray, List.set_cons_zero, List.set_cons_succ])
              refine wpAnyH_take (i := 2) (oi := ⟨some 77, _, _, _, _, _⟩) (v := ?_) rfl (by kernel_rfl) (by kernel_rfl) (by kernel_rfl) (fun _ _ _ h => h) ?_ (by assumption) ?_; rotate_left; (focus (refine Or.inl ⟨rfl, ?_⟩; intro w hSw; (try dsimp only at hSw); obtain ⟨s0, s1⟩ := two_cells hSw; go_simp; (try with_reducible rfl); done)); (try simp only [Act.put, List.setIfInBounds_toArray, List.set_cons_zero, List.set_cons_succ])
              refine wpAnyH_take (i := 3) (oi := ⟨some 78, _, _, _, _, _⟩) (v := ?_) rfl (by kernel_rfl) (by kernel_rfl) (by kernel_rfl) (fun _ _ _ h => h) ?_ (by assumption) ?_; rotate_left; (focus (refine Or.inl ⟨rfl, ?_⟩; intro w hSw; (try dsimp only at hSw); obtain ⟨s0, s1⟩ := two_cells hSw; go_simp; (try with_reducible rfl); done)); (try simp only [Act.put, List.setIfInBounds_toArray, List.set_cons_zero, List.set_cons_succ])
              refine wpAnyH_take (i := 4) (oi := ⟨some 79, _, _, _, _, _⟩) (v := ?_) rfl (by kernel_rfl) (by kernel_rfl) (by kernel_rfl) (fun _ _ _ h => h) ?_ (by assumption) ?_; rotate_left; (focus (refine Or.inl ⟨rfl, ?_⟩; intro w hSw; (try dsimp only at hSw); obtain ⟨s0, s1⟩ := two_cells hSw; go_simp; (try with_reducible rfl); done)); (try simp only [Act.put, List.setIfInBounds_toArray, List.set_cons_zero, List.set_cons_succ])
              (first | (refine wpAnyH_take (i := 5) (oi := ⟨some 80, _, _, _, _, _⟩) (v := ?_) rfl (by kernel_rfl) (by kernel_rfl) (by kernel_rfl) (fun _ _ _ h => h) ?_ (by assumption) ?_; rotate_left; (focus (refine Or.inl ⟨rfl, ?_⟩; intro w hSw; (try dsimp only at hSw); obtain ⟨s0, s1⟩ := two_cells hSw; go_simp; (try with_reducible rfl); done))) | (refine wpAnyH_take (i := 5) (oi := ⟨some 80, _, _, _, _, _⟩) (v := undef) rfl (by kernel_rfl) (by kernel_rfl) (by kernel_rfl) (fun _ _ _ h => h) (Or.inr ⟨rfl, rfl⟩) (by assumption) ?_)); (try simp only [Act.put, List.setIfInBounds_toArray, List.set_cons_zero, List.set_cons_succ])
              (first | (refine wpAnyH_take (i := 6) (oi := ⟨some 81, _, _, _, _, _⟩) (v := ?_) rfl (by kernel_rfl) (by kernel_rfl) (by kernel_rfl) (fun _ _ _ h => h) ?_ (by assumption) ?_; rotate_left; (focus (refine Or.inl ⟨rfl, ?_⟩; intro w hSw; (try dsimp only at hSw); obtain ⟨s0, s1⟩ := two_cells hSw; go_simp; (try with_reducible rfl); done))) | (refine wpAnyH_take (i := 6) (oi := ⟨some 81, _, _, _, _, _⟩) (v := undef) rfl (by kernel_rfl) (by kernel_rfl) (by kernel_rfl) (fun _ _ _ h => h) (Or.inr ⟨rfl, rfl⟩) (by assumption) ?_)); (try simp only [Act.put, List.setIfInBounds_toArray, List.set_cons_zero, List.set_cons_succ])
              (first | (refine wpAnyH_take (i := 7) (oi := ⟨some 82, _, _, _, _, _⟩) (v := ?_) rfl (by kernel_rfl) (by kernel_rfl) (by kernel_rfl) (fun _ _ _ h => h) ?_ (by assumption) ?_; rotate_left; (focus (refine Or.inl ⟨rfl, ?_⟩; intro w hSw; (try dsimp only at hSw); obtain ⟨s0, s1⟩ := two_cells hSw; go_simp; (try with_reducible rfl); done))) | (refine wpAnyH_take (i := 7) (oi := ⟨some 82, _, _, _, _, _⟩) (v := undef) rfl (by kernel_rfl) (by kernel_rfl) (by kernel_rfl) (fun _ _ _ h => h) (Or.inr ⟨rfl, rfl⟩) (by assumption) ?_)); (try simp only [Act.put, List.setIfInBounds_toArray, List.set_cons_zero, List.set_cons_succ])
              (first | (refine wpAnyH_take (i := 8) (oi := ⟨some 83, _, _, _, _, _⟩) (v := ?_) rfl (by kernel_rfl) (by kernel_rfl) (by kernel_rfl) (fun _ _ _ h => h) ?_ (by assumption) ?_; rotate_left; (focus (refine Or.inl ⟨rfl, ?_⟩; intro w hSw; (try dsimp only at hSw); obtain ⟨s0, s1⟩ := two_cells hSw; go_simp; (try with_reducible rfl); done))) | (refine wpAnyH_take (i := 8) (oi := ⟨some 83, _, _, _, _, _⟩) (v := undef) rfl (by kernel_rfl) (by kernel_rfl) (by kernel_rfl) (fun _ _ _ h => h) (Or.inr ⟨rfl, rfl⟩) (by assumption) ?_)); (try simp only [Act.put, List.setIfInBounds_toArray, List.set_cons_zero, List.set_cons_succ])
              (first | (refine wpAnyH_take (i := 9) (oi := ⟨some 84, _, _, _, _, _⟩) (v := ?_) rfl (by kernel_rfl) (by kernel_rfl) (by kernel_rfl) (fun _ _ _ h => h) ?_ (by assumption) ?_; rotate_left; (focus (refine Or.inl ⟨rfl, ?_⟩; intro w hSw; (try dsimp only at hSw); obtain ⟨s0, s1⟩ := two_cells hSw; go_simp; (try with_reducible rfl); done))) | (refine wpAnyH_take (i := 9) (oi := ⟨some 84, _, _, _, _, _⟩) (v := undef) rfl (by kernel_rfl) (by kernel_rfl) (by kernel_rfl) (fun _ _ _ h => h) (Or.inr ⟨rfl, rfl⟩) (by assumption) ?_)); (try simp only [Act.put, List.setIfInBounds_toArray, List.set_cons_zero, List.set_cons_succ])
              (first | (refine wpAnyH_take (i := 10) (oi := ⟨some 85, _, _, _, _, _⟩) (v := ?_) rfl (by kernel_rfl) (by kernel_rfl) (by kernel_rfl) (fun _ _ _ h => h) ?_ (by assumption) ?_; rotate_left; (focus (refine Or.inl ⟨rfl, ?_⟩; intro w hSw; (try dsimp only at hSw); obtain ⟨s0, s1⟩ := two_cells hSw; go_simp; (try with_reducible rfl); done))) | (refine wpAnyH_take (i := 10) (oi := ⟨some 85, _, _, _, _, _⟩) (v := undef) rfl (by kernel_rfl) (by kernel_rfl) (by kernel_rfl) (fun _ _ _ h => h) (Or.inr ⟨rfl, rfl⟩) (by assumption) ?_)); (try simp only [Act.put, List.setIfInBounds_toArray, List.set_cons_zero, List.set_cons_succ])
              (first | (refine wpAnyH_take (i := 11) (oi := ⟨some 86, _, _, _, _, _⟩) (v := ?_) rfl (by kernel_rfl) (by kernel_rfl) (by kernel_rfl) (fun _ _ _ h => h) ?_ (by assumption) ?_; rotate_left; (focus (refine Or.inl ⟨rfl, ?_⟩; intro w hSw; (try dsimp only at hSw); obtain ⟨s0, s1⟩ := two_cells hSw; go_simp; (try with_reducible rfl); done))) | (refine wpAnyH_take (i := 11) (oi := ⟨some 86, _, _, _, _, _⟩) (v := undef) rfl (by kernel_rfl) (by kernel_rfl) (by kernel_rfl) (fun _ _ _ h => h) (Or.inr ⟨rfl, rfl⟩) (by assumption) ?_)); (try simp only [Act.put, List.setIfInBounds_toArray, List.set_cons_zero, List.set_cons_succ])
              refine wpAnyH_take (i := 12) (oi := ⟨some 87, _, _, _, _, _⟩) (v := ?_) rfl (by kernel_rfl) (by kernel_rfl) (by kernel_rfl) (fun _ _ _ h => h) ?_ (by assumption) ?_; rotate_left; (focus (refine Or.inl ⟨rfl, ?_⟩; intro w hSw; (try dsimp only at hSw); obtain ⟨s0, s1⟩ := two_cells hSw; go_simp; (try with_reducible rfl); done)); (try simp only [Act.put, List.setIfInBounds_toArray, List.set_cons_zero, List.set_cons_succ])
              refine wpAnyH_ready (rs := [13]) (by kernel_rfl) (by simp) ?_
              refine AllReadyH.cons (o := ⟨none, _, _, _, _, _⟩) rfl (fun K hK => ?_) AllReadyH.nil
              go_simp
              refine hK.out _ _ ?_ (fun hHeld2 => ?_)
              · with_reducible exact (two_other _ _ _ (Ne.symm NE.out)).trans BXD.out
              clear hK K hHeld; have hHeld := hHeld2; clear hHeld2; (try simp only [Act.put, List.setIfInBounds_toArray, List.set_cons_zero, List.set_cons_succ])
              refine wpAnyH_take (i := 14) (oi := ⟨some 5, _, _, _, _, _⟩) (v := ?_) rfl (by kernel_rfl) (by kernel_rfl) (by kernel_rfl) (fun _ _ _ h => h) ?_ (by assumption) ?_; rotate_left; (focus (refine Or.inl ⟨rfl, ?_⟩; intro w hSw; (try dsimp only at hSw); obtain ⟨s0, s1⟩ := two_cells hSw; go_simp; (try with_reducible rfl); done)); (try simp only [Act.put, List.setIfInBounds_toArray, List.set_cons_zero, List.set_cons_succ])
              refine wpAnyH_done (by kernel_rfl) ?_ _
              (try go_wp2)
              refine bodyPost_ret (results_cell_row_tmp rfl _ _ w.heap.size 38 #[.string (⟨#[]⟩ : ByteArray), .slice Au m1 cu] (0, 0) _ rfl (two_put ZD.out _ _) hu rfl (by exact sizeC)) rfl ?_
              exact cmdr_none (two_below (Nat.le_refl _) BD.out _ _)
            | true =>
              have hRs : R = some ⟨⟨#[]⟩, acc⟩ := by rw [← hr]; exact if_pos ⟨rfl, by rw [hm1]; exact beq_iff_eq.1 h1⟩
              subst hRs
              have h1i : ((m1 : Int) == 1) = true := beq_iff_eq.2 (by have := beq_iff_eq.1 h1; omega)
              have BXD := Lib.hid (blk_drew BO.out)
              have ZD := Lib.hid (blk_drew BZ.out)
              have BD := Lib.hid (below_drew HB.out)
              have SD := Lib.hid (show wr.heap.size ≤ wr.drew.heap.size by simp)
              have HOD := Lib.hid (Kd.R_below HO.out (below_drew (Below.refl _ _)))
              generalize hWD : wr.drew = wd at *
              refine wp_region_held_drew (S := (fun w' => w'.heap[go]? = some (.cells #[.string (⟨#[]⟩ : ByteArray), .slice Au m1 cu] 38 (0, 0)))) (by kernel_rfl) ?_ (fun hHeld => ?_)
              · rw [hWD]; exact BXD.out
              rw [hWD] at hHeld ⊢
              clear hWD
              have z0 := (blk_cell ZD.out 0).trans rfl; have fz0 := blk_frozen ZD.out 0
              have z1 := (blk_cell ZD.out 1).trans rfl; have fz1 := blk_frozen ZD.out 1
              refine wpAnyH_take (i := 0) (oi := ⟨some 75, _, _, _, _, _⟩) (v := ?_) rfl (by kernel_rfl) (by kernel_rfl) (by kernel_rfl) (fun _ _ _ h => h) ?_ (by assumption) ?_; rotate_left; (focus (refine Or.inl ⟨rfl, ?_⟩; intro w hSw; (try dsimp only at hSw); obtain ⟨s0, s1⟩ := two_cells hSw; go_simp; (try with_reducible rfl); done)); (try simp only [Act.put, List.setIfInBounds_toArray, List.set_cons_zero, List.set_cons_succ])
              refine wpAnyH_take (i := 1) (oi := ⟨some 76, _, _, _, _, _⟩) (v := ?_) rfl (by kernel_rfl) (by kernel_rfl) (by kernel_rfl) (fun _ _ _ h => h) ?_ (by assumption) ?_; rotate_left; (focus (refine Or.inl ⟨rfl, ?_⟩; intro w hSw; (try dsimp only at hSw); obtain ⟨s0, s1⟩ := two_cells hSw; go_simp; (try with_reducible rfl); done)); (try simp only [Act.put, List.setIfInBounds_toArray, List.set_cons_zero, List.set_cons_succ])
              refine wpAnyH_take (i := 2) (oi := ⟨some 77, _, _, _, _, _⟩) (v := ?_) rfl (by kernel_rfl) (by kernel_rfl) (by kernel_rfl) (fun _ _ _ h => h) ?_ (by assumption) ?_; rotate_left; (focus (refine Or.inl ⟨rfl, ?_⟩; intro w hSw; (try dsimp only at hSw); obtain ⟨s0, s1⟩ := two_cells hSw; go_simp; (try with_reducible rfl); done)); (try simp only [Act.put, List.setIfInBounds_toArray, List.set_cons_zero, List.set_cons_succ])
              refine wpAnyH_take (i := 3) (oi := ⟨some 78, _, _, _, _, _⟩) (v := ?_) rfl (by kernel_rfl) (by kernel_rfl) (by kernel_rfl) (fun _ _ _ h => h) ?_ (by assumption) ?_; rotate_left; (focus (refine Or.inl ⟨rfl, ?_⟩; intro w hSw; (try dsimp only at hSw); obtain ⟨s0, s1⟩ := two_cells hSw; go_simp; (try with_reducible rfl); done)); (try simp only [Act.put, List.setIfInBounds_toArray, List.set_cons_zero, List.set_cons_succ])
              refine wpAnyH_take (i := 4) (oi := ⟨some 79, _, _, _, _, _⟩) (v := ?_) rfl (by kernel_rfl) (by kernel_rfl) (by kernel_rfl) (fun _ _ _ h => h) ?_ (by assumption) ?_; rotate_left; (focus (refine Or.inl ⟨rfl, ?_⟩; intro w hSw; (try dsimp only at hSw); obtain ⟨s0, s1⟩ := two_cells hSw; go_simp; (try with_reducible rfl); done)); (try simp only [Act.put, List.setIfInBounds_toArray, List.set_cons_zero, List.set_cons_succ])
              (first | (refine wpAnyH_take (i := 5) (oi := ⟨some 80, _, _, _, _, _⟩) (v := ?_) rfl (by kernel_rfl) (by kernel_rfl) (by kernel_rfl) (fun _ _ _ h => h) ?_ (by assumption) ?_; rotate_left; (focus (refine Or.inl ⟨rfl, ?_⟩; intro w hSw; (try dsimp only at hSw); obtain ⟨s0, s1⟩ := two_cells hSw; go_simp; (try with_reducible rfl); done))) | (refine wpAnyH_take (i := 5) (oi := ⟨some 80, _, _, _, _, _⟩) (v := undef) rfl (by kernel_rfl) (by kernel_rfl) (by kernel_rfl) (fun _ _ _ h => h) (Or.inr ⟨rfl, rfl⟩) (by assumption) ?_)); (try simp only [Act.put, List.setIfInBounds_toArray, List.set_cons_zero, List.set_cons_succ])
              (first | (refine wpAnyH_take (i := 6) (oi := ⟨some 81, _, _, _, _, _⟩) (v := ?_) rfl (by kernel_rfl) (by kernel_rfl) (by kernel_rfl) (fun _ _ _ h => h) ?_ (by assumption) ?_; rotate_left; (focus (refine Or.inl ⟨rfl, ?_⟩; intro w hSw; (try dsimp only at hSw); obtain ⟨s0, s1⟩ := two_cells hSw; go_simp; (try with_reducible rfl); done))) | (refine wpAnyH_take (i := 6) (oi := ⟨some 81, _, _, _, _, _⟩) (v := undef) rfl (by kernel_rfl) (by kernel_rfl) (by kernel_rfl) (fun _ _ _ h => h) (Or.inr ⟨rfl, rfl⟩) (by assumption) ?_)); (try simp only [Act.put, List.setIfInBounds_toArray, List.set_cons_zero, List.set_cons_succ])
              (first | (refine wpAnyH_take (i := 7) (oi := ⟨some 82, _, _, _, _, _⟩) (v := ?_) rfl (by kernel_rfl) (by kernel_rfl) (by kernel_rfl) (fun _ _ _ h => h) ?_ (by assumption) ?_; rotate_left; (focus (refine Or.inl ⟨rfl, ?_⟩; intro w hSw; (try dsimp only at hSw); obtain ⟨s0, s1⟩ := two_cells hSw; go_simp; (try with_reducible rfl); done))) | (refine wpAnyH_take (i := 7) (oi := ⟨some 82, _, _, _, _, _⟩) (v := undef) rfl (by kernel_rfl) (by kernel_rfl) (by kernel_rfl) (fun _ _ _ h => h) (Or.inr ⟨rfl, rfl⟩) (by assumption) ?_)); (try simp only [Act.put, List.setIfInBounds_toArray, List.set_cons_zero, List.set_cons_succ])
              (first | (refine wpAnyH_take (i := 8) (oi := ⟨some 83, _, _, _, _, _⟩) (v := ?_) rfl (by kernel_rfl) (by kernel_rfl) (by kernel_rfl) (fun _ _ _ h => h) ?_ (by assumption) ?_; rotate_left; (focus (refine Or.inl ⟨rfl, ?_⟩; intro w hSw; (try dsimp only at hSw); obtain ⟨s0, s1⟩ := two_cells hSw; go_simp; (try with_reducible rfl); done))) | (refine wpAnyH_take (i := 8) (oi := ⟨some 83, _, _, _, _, _⟩) (v := undef) rfl (by kernel_rfl) (by kernel_rfl) (by kernel_rfl) (fun _ _ _ h => h) (Or.inr ⟨rfl, rfl⟩) (by assumption) ?_)); (try simp only [Act.put, List.setIfInBounds_toArray, List.set_cons_zero, List.set_cons_succ])
              (first | (refine wpAnyH_take (i := 9) (oi := ⟨some 84, _, _, _, _, _⟩) (v := ?_) rfl (by kernel_rfl) (by kernel_rfl) (by kernel_rfl) (fun _ _ _ h => h) ?_ (by assumption) ?_; rotate_left; (focus (refine Or.inl ⟨rfl, ?_⟩; intro w hSw; (try dsimp only at hSw); obtain ⟨s0, s1⟩ := two_cells hSw; go_simp; (try with_reducible rfl); done))) | (refine wpAnyH_take (i := 9) (oi := ⟨some 84, _, _, _, _, _⟩) (v := undef) rfl (by kernel_rfl) (by kernel_rfl) (by kernel_rfl) (fun _ _ _ h => h) (Or.inr ⟨rfl, rfl⟩) (by assumption) ?_)); (try simp only [Act.put, List.setIfInBounds_toArray, List.set_cons_zero, List.set_cons_succ])
              (first | (refine wpAnyH_take (i := 10) (oi := ⟨some 85, _, _, _, _, _⟩) (v := ?_) rfl (by kernel_rfl) (by kernel_rfl) (by kernel_rfl) (fun _ _ _ h => h) ?_ (by assumption) ?_; rotate_left; (focus (refine Or.inl ⟨rfl, ?_⟩; intro w hSw; (try dsimp only at hSw); obtain ⟨s0, s1⟩ := two_cells hSw; go_simp; (try with_reducible rfl); done))) | (refine wpAnyH_take (i := 10) (oi := ⟨some 85, _, _, _, _, _⟩) (v := undef) rfl (by kernel_rfl) (by kernel_rfl) (by kernel_rfl) (fun _ _ _ h => h) (Or.inr ⟨rfl, rfl⟩) (by assumption) ?_)); (try simp only [Act.put, List.setIfInBounds_toArray, List.set_cons_zero, List.set_cons_succ])
              (first | (refine wpAnyH_take (i := 11) (oi := ⟨some 86, _, _, _, _, _⟩) (v := ?_) rfl (by kernel_rfl) (by kernel_rfl) (by kernel_rfl) (fun _ _ _ h => h) ?_ (by assumption) ?_; rotate_left; (focus (refine Or.inl ⟨rfl, ?_⟩; intro w hSw; (try dsimp only at hSw); obtain ⟨s0, s1⟩ := two_cells hSw; go_simp; (try with_reducible rfl); done))) | (refine wpAnyH_take (i := 11) (oi := ⟨some 86, _, _, _, _, _⟩) (v := undef) rfl (by kernel_rfl) (by kernel_rfl) (by kernel_rfl) (fun _ _ _ h => h) (Or.inr ⟨rfl, rfl⟩) (by assumption) ?_)); (try simp only [Act.put, List.setIfInBounds_toArray, List.set_cons_zero, List.set_cons_succ])
              refine wpAnyH_take (i := 12) (oi := ⟨some 87, _, _, _, _, _⟩) (v := ?_) rfl (by kernel_rfl) (by kernel_rfl) (by kernel_rfl) (fun _ _ _ h => h) ?_ (by assumption) ?_; rotate_left; (focus (refine Or.inl ⟨rfl, ?_⟩; intro w hSw; (try dsimp only at hSw); obtain ⟨s0, s1⟩ := two_cells hSw; go_simp; (try with_reducible rfl); done)); (try simp only [Act.put, List.setIfInBounds_toArray, List.set_cons_zero, List.set_cons_succ])
              refine wpAnyH_ready (rs := [13]) (by kernel_rfl) (by simp) ?_
              refine AllReadyH.cons (o := ⟨none, _, _, _, _, _⟩) rfl (fun K hK => ?_) AllReadyH.nil
              go_simp
              refine hK.out _ _ ?_ (fun hHeld2 => ?_)
              · with_reducible exact (two_other _ _ _ (Ne.symm NE.out)).trans BXD.out
              clear hK K hHeld; have hHeld := hHeld2; clear hHeld2; (try simp only [Act.put, List.setIfInBounds_toArray, List.set_cons_zero, List.set_cons_succ])
              refine wpAnyH_take (i := 14) (oi := ⟨some 5, _, _, _, _, _⟩) (v := ?_) rfl (by kernel_rfl) (by kernel_rfl) (by kernel_rfl) (fun _ _ _ h => h) ?_ (by assumption) ?_; rotate_left; (focus (refine Or.inl ⟨rfl, ?_⟩; intro w hSw; (try dsimp only at hSw); obtain ⟨s0, s1⟩ := two_cells hSw; go_simp; (try with_reducible rfl); done)); (try simp only [Act.put, List.setIfInBounds_toArray, List.set_cons_zero, List.set_cons_succ])
              refine wpAnyH_done (by kernel_rfl) ?_ _
              (try go_wp2)
              refine bodyPost_ret (results_cell_row_tmp rfl _ _ w.heap.size 38 #[.string (⟨#[]⟩ : ByteArray), .slice Au m1 cu] (0, 0) _ rfl (two_put ZD.out _ _) hu rfl (by exact sizeC)) rfl ?_
              exact ⟨_, _, _, _, rfl, fun c h => (by injection h with h; subst h; exact ⟨rfl, hm1.symm, Kd.R_lower (R_base HOD.out (fun k hk _ => two_other _ _ k (by have := S1.out; have := S2.out; omega))) (below_size B2.out)⟩), two_below (Nat.le_refl _) BD.out _ _⟩
        | succ k2 =>
          have hlt : decide (i < n) = true := decide_eq_true (by omega)
          have hltn := eq_true (show i < n by omega)
          have hlt' : (i : Int) < (n : Int) := by omega
          have hi0 : (0 : Int) ≤ (i : Int) := by omega
          obtain ⟨ad', E2, e2, hade, hAt, hk2, hle⟩ := AtW.of_elemL HAn.out (i : Int) hi0 hlt'
          have hade' := Option.some.inj hade
          subst hade'
          clear hade
          have q0 := eq_true hi0
          have q1 := eq_true hlt'
          have wi' : IntKind.i64.wrap ((i : Int) + 1) = (i : Int) + 1 := by rw [i64_w]; exact wrap_small _ (by have := HLn.out; omega) (by have := HLn.out; omega)
          have hstep := rd_W l i (by rw [HN.out]; omega)
          have hm := HP.out _ (rd_mem l (i : Int) hi0 (by rw [HN.out]; exact hlt'))
          have hr := HR.out
          rw [hstep] at hr
          have ti : (i : Int).toNat = i := by omega
          rw [ti] at hAt
          generalize rd_T45 l (i : Int) = y at *
          obtain ⟨⟨a, q⟩, hq⟩ : ∃ p, refArgF y = p := ⟨_, rfl⟩
          have HLA := Lib.hid (by have h1 := refArg_len y; rw [hq] at h1; exact Nat.le_trans h1 hm.1 : a.f2.length ≤ 1048576)
          have CA := Lib.hid (refarg_at y E2 e2 w wr a q hq HB.out hk2 hle (by have := hm.1; omega) (by have := hm.2.1; omega) (fun s hs => by have := hm.2.2 s hs; omega))
          have hag := refArg_eq y
          rw [hq] at hag
          obtain ⟨b0, b1, b2, b3⟩ := hAt.below HB.out
          clear hAt hk2 hm hstep HR hi hq
          cases q with
          | false =>
            have hno : argR y = none := hag.trans (if_neg (by simp))
            rw [contG_no _ _ _ _ hno] at hr
            have hRn : R = none := hr.symm
            clear hr
            subst hRn
            clear hag hno
            go_wp2_with (first | (go_at_call 33; refine CA.out.mono ?_; rintro e w5 ⟨A5, c5, rfl, hk5, hb5⟩; have HK5 := Lib.hid hk5; have BZ5 := Lib.hid (blk_below BZ.out hb5); have BO5 := Lib.hid (blk_below BO.out hb5); have HB5 := Lib.hid (below_step HB.out hb5); have BN := Lib.hid (blk_new w5 zerosA); have NL := Lib.hid (Nat.ne_of_lt (blk_lt BZ5.out)); have NLo := Lib.hid (Nat.ne_of_lt (blk_lt BO5.out)); have LE := Lib.hid (below_size HB5.out); have HW5 := Lib.hid (below_size hb5); have HO5 := Lib.hid (Kd.R_below HO.out hb5); clear hk5 hb5) | ((with_reducible refine gate_store (t := 41) (p := 9) rfl ?_); refine row_event (by rfl) (by rfl) (by rfl) (by rfl) (by rfl) BN.out (by exact sizeA) (by rfl) (by first | rfl | simp [Value.oneCell']) ?_; intro w6 hz6 ho6 hb6; have Z6 := Lib.hid hz6; have BZ6 := Lib.hid ((ho6 _ NL.out).trans (blk_alloc BZ5.out zerosA)); have BO6 := Lib.hid ((ho6 _ NLo.out).trans (blk_alloc BO5.out zerosA)); have HB6 := Lib.hid (hb6 LE.out (below_alloc HB5.out zerosA)); have HB56 := Lib.hid (hb6 (Nat.le_refl _) (below_alloc (Below.refl w5.heap.size w5) zerosA)); have S6 := Lib.hid (blk_lt Z6.out); have d2 : w6.cell? ⟨w5.heap.size, 2, none⟩ = some (.slice A5 a.f2.length c5) := (blk_cell Z6.out 2).trans rfl; have u0 := (blk_cell BO6.out 0).trans rfl; have u1 := (blk_cell BO6.out 1).trans rfl; clear hb6 ho6 hz6) | ((with_reducible refine gate_store (t := 38) (p := 4) rfl ?_); refine row_event (by rfl) (by rfl) (by rfl) (by rfl) (by rfl) (by with_reducible first | exact BZ6.out) (by exact sizeC) (by rfl) (by first | rfl | simp [Value.oneCell']) ?_; intro w8 hz8 ho8 hb8; have Z8 := Lib.hid hz8; have HO8 := Lib.hid ho8; have HB8 := Lib.hid (hb8 (Nat.le_refl _) (by with_reducible first | exact HB6.out)); clear hb8 ho8 hz8))
            refine bodyPost_ret (results_cell_row_tmp rfl _ _ w.heap.size 38 _ (0, 0) _ rfl Z8.out hu rfl (by exact sizeC)) rfl ?_
            exact cmdr_none HB8.out
          | true =>
            have hyes : argR y = some a := hag.trans (if_pos rfl)
            rw [contG_yes _ _ _ _ hyes] at hr
            have HR2 := Aside0.mk hr
            clear hag hyes hr
            go_wp2_with (first | (go_at_call 33; refine CA.out.mono ?_; rintro e w5 ⟨A5, c5, rfl, hk5, hb5⟩; have HK5 := Lib.hid hk5; have BZ5 := Lib.hid (blk_below BZ.out hb5); have BO5 := Lib.hid (blk_below BO.out hb5); have HB5 := Lib.hid (below_step HB.out hb5); have BN := Lib.hid (blk_new w5 zerosA); have NL := Lib.hid (Nat.ne_of_lt (blk_lt BZ5.out)); have NLo := Lib.hid (Nat.ne_of_lt (blk_lt BO5.out)); have LE := Lib.hid (below_size HB5.out); have HW5 := Lib.hid (below_size hb5); have HO5 := Lib.hid (Kd.R_below HO.out hb5); clear hk5 hb5) | ((with_reducible refine gate_store (t := 41) (p := 9) rfl ?_); refine row_event (by rfl) (by rfl) (by rfl) (by rfl) (by rfl) BN.out (by exact sizeA) (by rfl) (by first | rfl | simp [Value.oneCell']) ?_; intro w6 hz6 ho6 hb6; have Z6 := Lib.hid hz6; have BZ6 := Lib.hid ((ho6 _ NL.out).trans (blk_alloc BZ5.out zerosA)); have BO6 := Lib.hid ((ho6 _ NLo.out).trans (blk_alloc BO5.out zerosA)); have HB6 := Lib.hid (hb6 LE.out (below_alloc HB5.out zerosA)); have HB56 := Lib.hid (hb6 (Nat.le_refl _) (below_alloc (Below.refl w5.heap.size w5) zerosA)); have S6 := Lib.hid (blk_lt Z6.out); have d2 : w6.cell? ⟨w5.heap.size, 2, none⟩ = some (.slice A5 a.f2.length c5) := (blk_cell Z6.out 2).trans rfl; have u0 := (blk_cell BO6.out 0).trans rfl; have u1 := (blk_cell BO6.out 1).trans rfl; clear hb6 ho6 hz6) | ((with_reducible refine gate_dst (N := 64) rfl ?_); refine Kd.R_lit Kd.string _ 9 ?hg (N := 64) ?hd (xs := ([] : List ByteArray)) (inner := []) (ok := fun _ => True) (okp := fun _ => True) ?hr ?hp (fun _ hk => hk) trivial (Below.refl _ _) (Nat.le_refl _) (by simp) ?_; (case hd => rfl); (case hg => rfl); (case hr => first | (go_simp; done) | (go_simp; rfl)); (case hp => exact (Reps.none _ _)); intro v7 w7 ho7 hb7 hg7 hn7; have HO7 := Lib.hid ho7; have HB67 := Lib.hid hb7; clear d2; have d2 : w7.cell? ⟨w5.heap.size, 2, none⟩ = some (.slice A5 a.f2.length c5) := (blk_cell (blk_below Z6.out HB67.out) 2).trans rfl; clear u0 u1 ho7 hb7 hg7 hn7) | ((with_reducible refine gate_builtin (b := .append) (xs := #[.tmp 64, .tmp 66]) rfl ?_); at_builtin; refine Kd.R_append_rows Kd.string (w0 := w7) w6.heap.size rfl (.tmp 64) (.tmp 66) 39 9 (.string ⟨#[]⟩) 16 rfl Try.underlying39 info9 rfl (by decide) (by omega) v7 [] a.f2 _ _ _ (fun _ => True) (fun _ => False) rfl rfl ?aO ?aR (fun _ _ h => h) (fun _ h => h.elim) ?aF ?aB ?aS ?aL ?_; (case aR => exact Kd.C_below HK5.out (below_step HB6.out HB67.out)); (case aB => exact Below.refl _ _); (case aF => exact (fun _ _ => trivial)); (case aO => exact HO7.out); (case aS => exact below_size HB67.out); (case aL => have h1 := HLA.out; simp; omega); intro v8 w8 hr8 hb8 hg8 hat8; rw [List.nil_append] at hr8; obtain ⟨A8, c8, rfl⟩ := Kd.R_slice hr8; have HB68 := Lib.hid (HB67.out.trans hb8); have Z8 := Lib.hid (blk_below Z6.out HB68.out); have fz8 := blk_frozen Z8.out 2; have d8 : w8.cell? ⟨w5.heap.size, 2, none⟩ = some (.slice A5 a.f2.length c5) := (blk_cell Z8.out 2).trans rfl; have HB59 := Lib.hid (show Below w5.heap.size w5 (w8.setCell ⟨w5.heap.size, 2, none⟩ (.slice A8 a.f2.length c8)) from below_set (below_step HB56.out HB68.out) (Nat.le_refl _)); have ZP := Lib.hid (show (w8.setCell ⟨w5.heap.size, 2, none⟩ (.slice A8 a.f2.length c8)).heap[w5.heap.size]? = some (.cells #[.int .i64 a.f0, .string a.f1, .slice A8 a.f2.length c8, .int .i64 a.f3, .string a.f4] 41 (0, 0)) from blk_put Z8.out 2 _ rfl); have y0 := (blk_cell ZP.out 0).trans rfl; have y1 := (blk_cell ZP.out 1).trans rfl; have y2 := (blk_cell ZP.out 2).trans rfl; have y3 := (blk_cell ZP.out 3).trans rfl; have y4 := (blk_cell ZP.out 4).trans rfl; have BO8 := Lib.hid (blk_below BO5.out HB59.out); have y5 := (blk_cell BO8.out 1).trans rfl; have HR8 := Lib.hid (R_base hr8 (fun k hk _ => (Below.heap_setCell w8 ⟨w5.heap.size, 2, none⟩ (.slice A8 a.f2.length c8) k (by have := S6.out; show k ≠ w5.heap.size; omega)))); clear d2 hr8 hb8 hg8 hat8) | ((with_reducible refine gate_builtin (b := .append) (xs := #[.tmp 70, .tmp 72]) rfl ?_); at_builtin; refine Kd.R_append kA (w0 := (w8.setCell ⟨w5.heap.size, 2, none⟩ (.slice A8 a.f2.length c8))) w2.heap.size rfl (.tmp 70) (.tmp 72) 36 41 (.agg #[(.int .i64 0), (.string ⟨#[]⟩), (.slice none 0 0), (.int .i64 0), (.string ⟨#[]⟩)]) 72 rfl Try.underlying36 info41 rfl (by decide) (by omega) (.slice Au acc.length cu) acc a [.int .i64 a.f0, .string a.f1, .slice A8 a.f2.length c8, .int .i64 a.f3, .string a.f4] (fun _ => True) (fun k => wr.heap.size ≤ k) rfl (by show Value.slice (some ⟨w8.heap.size, 0, none⟩) 1 1 = _; simp) ?aP ?aK (fun _ _ => trivial) ?aO (Below.refl _ _) ?aS ?aL ?_; (case aP => exact k41_mkM _ _ _ a (Kd.R_mono (Kd.R_lower (Kd.R_bound HR8.out) (by have h1 := HS.out; have h2 := HW5.out; have h3 := S6.out; omega)) (fun k hk => by have h1 := hk.2.1; have h2 := HW5.out; have h3 := S6.out; omega))); (case aK => exact (fun k hk => ⟨trivial, fun he => by have := (R_lt HO.out k he.symm).2; omega⟩)); (case aO => exact (Kd.R_below HO5.out HB59.out)); (case aS => exact (by have h1 := HS.out; have h2 := HW5.out; have h3 := below_size HB59.out; omega)); (case aL => have h1 := HAC.out; have h2 := HLn.out; have h3 := HI.out; omega); intro v9 w9 hr9 hb9 hg9 hat9; obtain ⟨A9, c9, rfl⟩ := Kd.R_slice hr9; have hla : (acc ++ [a]).length = acc.length + 1 := (by simp); rw [hla] at hr9; clear hla; have HR9 := Lib.hid hr9; have HB9 := Lib.hid ((below_step HB5.out HB59.out).trans (hb9.mono (by have := S1.out; have := S2.out; omega))); have SZ9 := Lib.hid (by have h1 := HS.out; have h2 := HW5.out; have h3 := below_size HB59.out; have h4 := hb9.size; omega : w2.heap.size ≤ w9.heap.size); have BZ9 := Lib.hid (blk_grown (blk_below BZ5.out HB59.out) hg9 (fun he => by have h1 := (R_lt HO.out _ he.symm).1; have h2 := S1.out; have h3 := S2.out; omega)); have BO9 := Lib.hid (blk_grown BO8.out hg9 (fun he => by have h1 := (R_lt HO.out _ he.symm).1; have h3 := S2.out; omega)); have r1 : w9.cell? ⟨go, 1, none⟩ = some (.slice Au acc.length cu) := (blk_cell BO9.out 1).trans rfl; have fr1 := blk_frozen BO9.out 1; clear y0 y1 y2 y3 y4 y5 hr9 hb9 hg9 hat9))
            go_roundg k2
            case measure => omega
            case rel => exact ⟨i + 1, acc ++ [a], .slice A9 (acc.length + 1) c9, by simp, ⟨by have := HI.out; omega⟩, ⟨by rw [List.length_append]; have := HAC.out; simp; omega⟩, HR2, ⟨R_base HR9.out (fun k hk _ => Below.heap_setCell _ _ _ k (by have := S2.out; show k ≠ go; omega))⟩, ⟨blk_far BZ9.out NE.out _⟩, ⟨blk_put BO9.out 1 _ rfl⟩, ⟨below_set HB9.out (by have := S1.out; omega)⟩, ⟨by simpa using SZ9.out⟩⟩
    · go_wp2
      have ZS := Z2
      have OS := O2
      have BS := B2
      have SS := Lib.hid (Nat.le_refl w2.heap.size)
      clear a0 a1 a2 a3 o0 o1 fo0 CF
      have HG0 := Lib.hid hg.symm; clear hg
      go_loopg [8] (n - 0) (fun kq v8 wr => ∃ (i : Nat) (acc : List Ag) (u : Value), v8 = .int .i64 (i : Int) ∧ Aside0 (i + kq = n) ∧ Aside0 (acc.length ≤ i) ∧ Aside0 (contG (fun l => if b = true ∧ l.length = 1 then some ⟨⟨#[]⟩, l⟩ else none) acc (l.drop i) = R) ∧ Aside0 (kA.R 41 wr w2.heap.size (fun _ => True) u acc) ∧ Aside0 (wr.heap[w.heap.size]? = some zerosC) ∧ Aside0 (wr.heap[go]? = some (.cells #[.string (⟨#[]⟩ : ByteArray), u] 38 (0, 0))) ∧ Aside0 (Below w.heap.size w wr) ∧ Aside0 (w2.heap.size ≤ wr.heap.size))
      case atStart => exact ⟨0, [], .slice none 0 0, rfl, ⟨by omega⟩, ⟨Nat.zero_le _⟩, ⟨HG0.out⟩, ⟨Kd.R_nil _ _ _ _ _⟩, ⟨ZS.out⟩, ⟨OS.out⟩, ⟨BS.out⟩, ⟨SS.out⟩⟩
      case round =>
        clear ZS OS BS SS HG0
        obtain ⟨i, acc, u, rfl, HI, HAC, HR, HO, BZ, BO, HB, HS⟩ := hrel
        have hi := HI.out
        obtain ⟨Au, cu, rfl⟩ := Kd.R_slice HO.out
        cases gk with
        | zero =>
          have hlt : decide (i < n) = false := decide_eq_false (by omega)
          have hr := HR.out
          rw [List.drop_of_length_le (by rw [HN.out]; omega), contG_nil] at hr
          clear hi
          go_wp2
          cases b with
          | false =>
            have hRs : R = none := by rw [← hr]; rfl
            subst hRs
            have BXD := Lib.hid (blk_drew BO.out)
            have ZD := Lib.hid (blk_drew BZ.out)
            have BD := Lib.hid (below_drew HB.out)
            have SD := Lib.hid (show wr.heap.size ≤ wr.drew.heap.size by simp)
            have HOD := Lib.hid (Kd.R_below HO.out (below_drew (Below.refl _ _)))
            generalize hWD : wr.drew = wd at *
            refine wp_region_held_drew (S := (fun w' => w'.heap[go]? = some (.cells #[.string (⟨#[]⟩ : ByteArray), .slice Au acc.length cu] 38 (0, 0)))) (by kernel_rfl) ?_ (fun hHeld => ?_)
            · rw [hWD]; exact BXD.out
            rw [hWD] at hHeld ⊢
            clear hWD
            have z0 := (blk_cell ZD.out 0).trans rfl; have fz0 := blk_frozen ZD.out 0
            have z1 := (blk_cell ZD.out 1).trans rfl; have fz1 := blk_frozen ZD.out 1
            refine wpAnyH_take (i := 0) (oi := ⟨some 75, _, _, _, _, _⟩) (v := ?_) rfl (by kernel_rfl) (by kernel_rfl) (by kernel_rfl) (fun _ _ _ h => h) ?_ (by assumption) ?_; rotate_left; (focus (refine Or.inl ⟨rfl, ?_⟩; intro w hSw; (try dsimp only at hSw); obtain ⟨s0, s1⟩ := two_cells hSw; go_simp; (try with_reducible rfl); done)); (try simp only [Act.put, List.setIfInBounds_toArray, List.set_cons_zero, List.set_cons_succ])
            refine wpAnyH_take (i := 1) (oi := ⟨some 76, _, _, _, _, _⟩) (v := ?_) rfl (by kernel_rfl) (by kernel_rfl) (by kernel_rfl) (fun _ _ _ h => h) ?_ (by assumption) ?_; rotate_left; (focus (refine Or.inl ⟨rfl, ?_⟩; intro w hSw; (try dsimp only at hSw); obtain ⟨s0, s1⟩ := two_cells hSw; go_simp; (try with_reducible rfl); done)); (try simp only [Act.put, List.setIfInBounds_toArray, List.set_cons_zero, List.set_cons_succ])
            refine wpAnyH_take (i := 2) (oi := ⟨some 77, _, _, _, _, _⟩) (v := ?_) rfl (by kernel_rfl) (by kernel_rfl) (by kernel_rfl) (fun _ _ _ h => h) ?_ (by assumption) ?_; rotate_left; (focus (refine Or.inl ⟨rfl, ?_⟩; intro w hSw; (try dsimp only at hSw); obtain ⟨s0, s1⟩ := two_cells hSw; go_simp; (try with_reducible rfl); done)); (try simp only [Act.put, List.setIfInBounds_toArray, List.set_cons_zero, List.set_cons_succ])
            refine wpAnyH_take (i := 3) (oi := ⟨some 78, _, _, _, _, _⟩) (v := ?_) rfl (by kernel_rfl) (by kernel_rfl) (by kernel_rfl) (fun _ _ _ h => h) ?_ (by assumption) ?_; rotate_left; (focus (refine Or.inl ⟨rfl, ?_⟩; intro w hSw; (try dsimp only at hSw); obtain ⟨s0, s1⟩ := two_cells hSw; go_simp; (try with_reducible rfl); done)); (try simp only [Act.put, List.setIfInBounds_toArray, List.set_cons_zero, List.set_cons_succ])
            refine wpAnyH_take (i := 4) (oi := ⟨some 79, _, _, _, _, _⟩) (v := ?_) rfl (by kernel_rfl) (by kernel_rfl) (by kernel_rfl) (fun _ _ _ h => h) ?_ (by assumption) ?_; rotate_left; (focus (refine Or.inl ⟨rfl, ?_⟩; intro w hSw; (try dsimp only at hSw); obtain ⟨s0, s1⟩ := two_cells hSw; go_simp; (try with_reducible rfl); done)); (try simp only [Act.put, List.setIfInBounds_toArray, List.set_cons_zero, List.set_cons_succ])
            (first | (refine wpAnyH_take (i := 5) (oi := ⟨some 80, _, _, _, _, _⟩) (v := ?_) rfl (by kernel_rfl) (by kernel_rfl) (by kernel_rfl) (fun _ _ _ h => h) ?_ (by assumption) ?_; rotate_left; (focus (refine Or.inl ⟨rfl, ?_⟩; intro w hSw; (try dsimp only at hSw); obtain ⟨s0, s1⟩ := two_cells hSw; go_simp; (try with_reducible rfl); done))) | (refine wpAnyH_take (i := 5) (oi := ⟨some 80, _, _, _, _, _⟩) (v := undef) rfl (by kernel_rfl) (by kernel_rfl) (by kernel_rfl) (fun _ _ _ h => h) (Or.inr ⟨rfl, rfl⟩) (by assumption) ?_)); (try simp only [Act.put, List.setIfInBounds_toArray, List.set_cons_zero, List.set_cons_succ])
            (first | (refine wpAnyH_take (i := 6) (oi := ⟨some 81, _, _, _, _, _⟩) (v := ?_) rfl (by kernel_rfl) (by kernel_rfl) (by kernel_rfl) (fun _ _ _ h => h) ?_ (by assumption) ?_; rotate_left; (focus (refine Or.inl ⟨rfl, ?_⟩; intro w hSw; (try dsimp only at hSw); obtain ⟨s0, s1⟩ := two_cells hSw; go_simp; (try with_reducible rfl); done))) | (refine wpAnyH_take (i := 6) (oi := ⟨some 81, _, _, _, _, _⟩) (v := undef) rfl (by kernel_rfl) (by kernel_rfl) (by kernel_rfl) (fun _ _ _ h => h) (Or.inr ⟨rfl, rfl⟩) (by assumption) ?_)); (try simp only [Act.put, List.setIfInBounds_toArray, List.set_cons_zero, List.set_cons_succ])
            (first | (refine wpAnyH_take (i := 7) (oi := ⟨some 82, _, _, _, _, _⟩) (v := ?_) rfl (by kernel_rfl) (by kernel_rfl) (by kernel_rfl) (fun _ _ _ h => h) ?_ (by assumption) ?_; rotate_left; (focus (refine Or.inl ⟨rfl, ?_⟩; intro w hSw; (try dsimp only at hSw); obtain ⟨s0, s1⟩ := two_cells hSw; go_simp; (try with_reducible rfl); done))) | (refine wpAnyH_take (i := 7) (oi := ⟨some 82, _, _, _, _, _⟩) (v := undef) rfl (by kernel_rfl) (by kernel_rfl) (by kernel_rfl) (fun _ _ _ h => h) (Or.inr ⟨rfl, rfl⟩) (by assumption) ?_)); (try simp only [Act.put, List.setIfInBounds_toArray, List.set_cons_zero, List.set_cons_succ])
            (first | (refine wpAnyH_take (i := 8) (oi := ⟨some 83, _, _, _, _, _⟩) (v := ?_) rfl (by kernel_rfl) (by kernel_rfl) (by kernel_rfl) (fun _ _ _ h => h) ?_ (by assumption) ?_; rotate_left; (focus (refine Or.inl ⟨rfl, ?_⟩; intro w hSw; (try dsimp only at hSw); obtain ⟨s0, s1⟩ := two_cells hSw; go_simp; (try with_reducible rfl); done))) | (refine wpAnyH_take (i := 8) (oi := ⟨some 83, _, _, _, _, _⟩) (v := undef) rfl (by kernel_rfl) (by kernel_rfl) (by kernel_rfl) (fun _ _ _ h => h) (Or.inr ⟨rfl, rfl⟩) (by assumption) ?_)); (try simp only [Act.put, List.setIfInBounds_toArray, List.set_cons_zero, List.set_cons_succ])
            (first | (refine wpAnyH_take (i := 9) (oi := ⟨some 84, _, _, _, _, _⟩) (v := ?_) rfl (by kernel_rfl) (by kernel_rfl) (by kernel_rfl) (fun _ _ _ h => h) ?_ (by assumption) ?_; rotate_left; (focus (refine Or.inl ⟨rfl, ?_⟩; intro w hSw; (try dsimp only at hSw); obtain ⟨s0, s1⟩ := two_cells hSw; go_simp; (try with_reducible rfl); done))) | (refine wpAnyH_take (i := 9) (oi := ⟨some 84, _, _, _, _, _⟩) (v := undef) rfl (by kernel_rfl) (by kernel_rfl) (by kernel_rfl) (fun _ _ _ h => h) (Or.inr ⟨rfl, rfl⟩) (by assumption) ?_)); (try simp only [Act.put, List.setIfInBounds_toArray, List.set_cons_zero, List.set_cons_succ])
            (first | (refine wpAnyH_take (i := 10) (oi := ⟨some 85, _, _, _, _, _⟩) (v := ?_) rfl (by kernel_rfl) (by kernel_rfl) (by kernel_rfl) (fun _ _ _ h => h) ?_ (by assumption) ?_; rotate_left; (focus (refine Or.inl ⟨rfl, ?_⟩; intro w hSw; (try dsimp only at hSw); obtain ⟨s0, s1⟩ := two_cells hSw; go_simp; (try with_reducible rfl); done))) | (refine wpAnyH_take (i := 10) (oi := ⟨some 85, _, _, _, _, _⟩) (v := undef) rfl (by kernel_rfl) (by kernel_rfl) (by kernel_rfl) (fun _ _ _ h => h) (Or.inr ⟨rfl, rfl⟩) (by assumption) ?_)); (try simp only [Act.put, List.setIfInBounds_toArray, List.set_cons_zero, List.set_cons_succ])
            (first | (refine wpAnyH_take (i := 11) (oi := ⟨some 86, _, _, _, _, _⟩) (v := ?_) rfl (by kernel_rfl) (by kernel_rfl) (by kernel_rfl) (fun _ _ _ h => h) ?_ (by assumption) ?_; rotate_left; (focus (refine Or.inl ⟨rfl, ?_⟩; intro w hSw; (try dsimp only at hSw); obtain ⟨s0, s1⟩ := two_cells hSw; go_simp; (try with_reducible rfl); done))) | (refine wpAnyH_take (i := 11) (oi := ⟨some 86, _, _, _, _, _⟩) (v := undef) rfl (by kernel_rfl) (by kernel_rfl) (by kernel_rfl) (fun _ _ _ h => h) (Or.inr ⟨rfl, rfl⟩) (by assumption) ?_)); (try simp only [Act.put, List.setIfInBounds_toArray, List.set_cons_zero, List.set_cons_succ])
            refine wpAnyH_take (i := 12) (oi := ⟨some 87, _, _, _, _, _⟩) (v := ?_) rfl (by kernel_rfl) (by kernel_rfl) (by kernel_rfl) (fun _ _ _ h => h) ?_ (by assumption) ?_; rotate_left; (focus (refine Or.inl ⟨rfl, ?_⟩; intro w hSw; (try dsimp only at hSw); obtain ⟨s0, s1⟩ := two_cells hSw; go_simp; (try with_reducible rfl); done)); (try simp only [Act.put, List.setIfInBounds_toArray, List.set_cons_zero, List.set_cons_succ])
            refine wpAnyH_ready (rs := [13]) (by kernel_rfl) (by simp) ?_
            refine AllReadyH.cons (o := ⟨none, _, _, _, _, _⟩) rfl (fun K hK => ?_) AllReadyH.nil
            go_simp
            refine hK.out _ _ ?_ (fun hHeld2 => ?_)
            · with_reducible exact (two_other _ _ _ (Ne.symm NE.out)).trans BXD.out
            clear hK K hHeld; have hHeld := hHeld2; clear hHeld2; (try simp only [Act.put, List.setIfInBounds_toArray, List.set_cons_zero, List.set_cons_succ])
            refine wpAnyH_take (i := 14) (oi := ⟨some 5, _, _, _, _, _⟩) (v := ?_) rfl (by kernel_rfl) (by kernel_rfl) (by kernel_rfl) (fun _ _ _ h => h) ?_ (by assumption) ?_; rotate_left; (focus (refine Or.inl ⟨rfl, ?_⟩; intro w hSw; (try dsimp only at hSw); obtain ⟨s0, s1⟩ := two_cells hSw; go_simp; (try with_reducible rfl); done)); (try simp only [Act.put, List.setIfInBounds_toArray, List.set_cons_zero, List.set_cons_succ])
            refine wpAnyH_done (by kernel_rfl) ?_ _
            (try go_wp2)
            refine bodyPost_ret (results_cell_row_tmp rfl _ _ w.heap.size 38 #[.string (⟨#[]⟩ : ByteArray), .slice Au acc.length cu] (0, 0) _ rfl (two_put ZD.out _ _) hu rfl (by exact sizeC)) rfl ?_
            exact cmdr_none (two_below (Nat.le_refl _) BD.out _ _)
          | true =>
            obtain ⟨m1, hm1⟩ : ∃ m, acc.length = m := ⟨_, rfl⟩
            rw [hm1] at BO HO
            cases h1 : (m1 == 1) with
            | false =>
              have hRs : R = none := by rw [← hr]; exact if_neg (fun h => by rw [hm1] at h; rw [h.2] at h1; cases h1)
              subst hRs
              have h1i : ((m1 : Int) == 1) = false := beq_eq_false_iff_ne.2 (by have := beq_eq_false_iff_ne.1 h1; omega)
              have BXD := Lib.hid (blk_drew BO.out)
              have ZD := Lib.hid (blk_drew BZ.out)
              have BD := Lib.hid (below_drew HB.out)
              have SD := Lib.hid (show wr.heap.size ≤ wr.drew.heap.size by simp)
              have HOD := Lib.hid (Kd.R_below HO.out (below_drew (Below.refl _ _)))
              generalize hWD : wr.drew = wd at *
              refine wp_region_held_drew (S := (fun w' => w'.heap[go]? = some (.cells #[.string (⟨#[]⟩ : ByteArray), .slice Au m1 cu] 38 (0, 0)))) (by kernel_rfl) ?_ (fun hHeld => ?_)
              · rw [hWD]; exact BXD.out
              rw [hWD] at hHeld ⊢
              clear hWD
              have z0 := (blk_cell ZD.out 0).trans rfl; have fz0 := blk_frozen ZD.out 0
              have z1 := (blk_cell ZD.out 1).trans rfl; have fz1 := blk_frozen ZD.out 1
              refine wpAnyH_take (i := 0) (oi := ⟨some 75, _, _, _, _, _⟩) (v := ?_) rfl (by kernel_rfl) (by kernel_rfl) (by kernel_rfl) (fun _ _ _ h => h) ?_ (by assumption) ?_; rotate_left; (focus (refine Or.inl ⟨rfl, ?_⟩; intro w hSw; (try dsimp only at hSw); obtain ⟨s0, s1⟩ := two_cells hSw; go_simp; (try with_reducible rfl); done)); (try simp only [Act.put, List.setIfInBounds_toArray, List.set_cons_zero, List.set_cons_succ])
              refine wpAnyH_take (i := 1) (oi := ⟨some 76, _, _, _, _, _⟩) (v := ?_) rfl (by kernel_rfl) (by kernel_rfl) (by kernel_rfl) (fun _ _ _ h => h) ?_ (by assumption) ?_; rotate_left; (focus (refine Or.inl ⟨rfl, ?_⟩; intro w hSw; (try dsimp only at hSw); obtain ⟨s0, s1⟩ := two_cells hSw; go_simp; (try with_reducible rfl); done)); (try simp only [Act.put, List.setIfInBounds_toArray, List.set_cons_zero, List.set_cons_succ])
              refine wpAnyH_take (i := 2) (oi := ⟨some 77, _, _, _, _, _⟩) (v := ?_) rfl (by kernel_rfl) (by kernel_rfl) (by kernel_rfl) (fun _ _ _ h => h) ?_ (by assumption) ?_; rotate_left; (focus (refine Or.inl ⟨rfl, ?_⟩; intro w hSw; (try dsimp only at hSw); obtain ⟨s0, s1⟩ := two_cells hSw; go_simp; (try with_reducible rfl); done)); (try simp only [Act.put, List.setIfInBounds_toArray, List.set_cons_zero, List.set_cons_succ])
              refine wpAnyH_take (i := 3) (oi := ⟨some 78, _, _, _, _, _⟩) (v := ?_) rfl (by kernel_rfl) (by kernel_rfl) (by kernel_rfl) (fun _ _ _ h => h) ?_ (by assumption) ?_; rotate_left; (focus (refine Or.inl ⟨rfl, ?_⟩; intro w hSw; (try dsimp only at hSw); obtain ⟨s0, s1⟩ := two_cells hSw; go_simp; (try with_reducible rfl); done)); (try simp only [Act.put, List.setIfInBounds_toArray, List.set_cons_zero, List.set_cons_succ])
              refine wpAnyH_take (i := 4) (oi := ⟨some 79, _, _, _, _, _⟩) (v := ?_) rfl (by kernel_rfl) (by kernel_rfl) (by kernel_rfl) (fun _ _ _ h => h) ?_ (by assumption) ?_; rotate_left; (focus (refine Or.inl ⟨rfl, ?_⟩; intro w hSw; (try dsimp only at hSw); obtain ⟨s0, s1⟩ := two_cells hSw; go_simp; (try with_reducible rfl); done)); (try simp only [Act.put, List.setIfInBounds_toArray, List.set_cons_zero, List.set_cons_succ])
              (first | (refine wpAnyH_take (i := 5) (oi := ⟨some 80, _, _, _, _, _⟩) (v := ?_) rfl (by kernel_rfl) (by kernel_rfl) (by kernel_rfl) (fun _ _ _ h => h) ?_ (by assumption) ?_; rotate_left; (focus (refine Or.inl ⟨rfl, ?_⟩; intro w hSw; (try dsimp only at hSw); obtain ⟨s0, s1⟩ := two_cells hSw; go_simp; (try with_reducible rfl); done))) | (refine wpAnyH_take (i := 5) (oi := ⟨some 80, _, _, _, _, _⟩) (v := undef) rfl (by kernel_rfl) (by kernel_rfl) (by kernel_rfl) (fun _ _ _ h => h) (Or.inr ⟨rfl, rfl⟩) (by assumption) ?_)); (try simp only [Act.put, List.setIfInBounds_toArray, List.set_cons_zero, List.set_cons_succ])
              (first | (refine wpAnyH_take (i := 6) (oi := ⟨some 81, _, _, _, _, _⟩) (v := ?_) rfl (by kernel_rfl) (by kernel_rfl) (by kernel_rfl) (fun _ _ _ h => h) ?_ (by assumption) ?_; rotate_left; (focus (refine Or.inl ⟨rfl, ?_⟩; intro w hSw; (try dsimp only at hSw); obtain ⟨s0, s1⟩ := two_cells hSw; go_simp; (try with_reducible rfl); done))) | (refine wpAnyH_take (i := 6) (oi := ⟨some 81, _, _, _, _, _⟩) (v := undef) rfl (by kernel_rfl) (by kernel_rfl) (by kernel_rfl) (fun _ _ _ h => h) (Or.inr ⟨rfl, rfl⟩) (by assumption) ?_)); (try simp only [Act.put, List.setIfInBounds_toArray, List.set_cons_zero, List.set_cons_succ])
              (first | (refine wpAnyH_take (i := 7) (oi := ⟨some 82, _, _, _, _, _⟩) (v := ?_) rfl (by kernel_rfl) (by kernel_rfl) (by kernel_rfl) (fun _ _ _ h => h) ?_ (by assumption) ?_; rotate_left; (focus (refine Or.inl ⟨rfl, ?_⟩; intro w hSw; (try dsimp only at hSw); obtain ⟨s0, s1⟩ := two_cells hSw; go_simp; (try with_reducible rfl); done))) | (refine wpAnyH_take (i := 7) (oi := ⟨some 82, _, _, _, _, _⟩) (v := undef) rfl (by kernel_rfl) (by kernel_rfl) (by kernel_rfl) (fun _ _ _ h => h) (Or.inr ⟨rfl, rfl⟩) (by assumption) ?_)); (try simp only [Act.put, List.setIfInBounds_toArray, List.set_cons_zero, List.set_cons_succ])
              (first | (refine wpAnyH_take (i := 8) (oi := ⟨some 83, _, _, _, _, _⟩) (v := ?_) rfl (by kernel_rfl) (by kernel_rfl) (by kernel_rfl) (fun _ _ _ h => h) ?_ (by assumption) ?_; rotate_left; (focus (refine Or.inl ⟨rfl, ?_⟩; intro w hSw; (try dsimp only at hSw); obtain ⟨s0, s1⟩ := two_cells hSw; go_simp; (try with_reducible rfl); done))) | (refine wpAnyH_take (i := 8) (oi := ⟨some 83, _, _, _, _, _⟩) (v := undef) rfl (by kernel_rfl) (by kernel_rfl) (by kernel_rfl) (fun _ _ _ h => h) (Or.inr ⟨rfl, rfl⟩) (by assumption) ?_)); (try simp only [Act.put, List.setIfInBounds_toArray, List.set_cons_zero, List.set_cons_succ])
              (first | (refine wpAnyH_take (i := 9) (oi := ⟨some 84, _, _, _, _, _⟩) (v := ?_) rfl (by kernel_rfl) (by kernel_rfl) (by kernel_rfl) (fun _ _ _ h => h) ?_ (by assumption) ?_; rotate_left; (focus (refine Or.inl ⟨rfl, ?_⟩; intro w hSw; (try dsimp only at hSw); obtain ⟨s0, s1⟩ := two_cells hSw; go_simp; (try with_reducible rfl); done))) | (refine wpAnyH_take (i := 9) (oi := ⟨some 84, _, _, _, _, _⟩) (v := undef) rfl (by kernel_rfl) (by kernel_rfl) (by kernel_rfl) (fun _ _ _ h => h) (Or.inr ⟨rfl, rfl⟩) (by assumption) ?_)); (try simp only [Act.put, List.setIfInBounds_toArray, List.set_cons_zero, List.set_cons_succ])
              (first | (refine wpAnyH_take (i := 10) (oi := ⟨some 85, _, _, _, _, _⟩) (v := ?_) rfl (by kernel_rfl) (by kernel_rfl) (by kernel_rfl) (fun _ _ _ h => h) ?_ (by assumption) ?_; rotate_left; (focus (refine Or.inl ⟨rfl, ?_⟩; intro w hSw; (try dsimp only at hSw); obtain ⟨s0, s1⟩ := two_cells hSw; go_simp; (try with_reducible rfl); done))) | (refine wpAnyH_take (i := 10) (oi := ⟨some 85, _, _, _, _, _⟩) (v := undef) rfl (by kernel_rfl) (by kernel_rfl) (by kernel_rfl) (fun _ _ _ h => h) (Or.inr ⟨rfl, rfl⟩) (by assumption) ?_)); (try simp only [Act.put, List.setIfInBounds_toArray, List.set_cons_zero, List.set_cons_succ])
              (first | (refine wpAnyH_take (i := 11) (oi := ⟨some 86, _, _, _, _, _⟩) (v := ?_) rfl (by kernel_rfl) (by kernel_rfl) (by kernel_rfl) (fun _ _ _ h => h) ?_ (by assumption) ?_; rotate_left; (focus (refine Or.inl ⟨rfl, ?_⟩; intro w hSw; (try dsimp only at hSw); obtain ⟨s0, s1⟩ := two_cells hSw; go_simp; (try with_reducible rfl); done))) | (refine wpAnyH_take (i := 11) (oi := ⟨some 86, _, _, _, _, _⟩) (v := undef) rfl (by kernel_rfl) (by kernel_rfl) (by kernel_rfl) (fun _ _ _ h => h) (Or.inr ⟨rfl, rfl⟩) (by assumption) ?_)); (try simp only [Act.put, List.setIfInBounds_toArray, List.set_cons_zero, List.set_cons_succ])
              refine wpAnyH_take (i := 12) (oi := ⟨some 87, _, _, _, _, _⟩) (v := ?_) rfl (by kernel_rfl) (by kernel_rfl) (by kernel_rfl) (fun _ _ _ h => h) ?_ (by assumption) ?_; rotate_left; (focus (refine Or.inl ⟨rfl, ?_⟩; intro w hSw; (try dsimp only at hSw); obtain ⟨s0, s1⟩ := two_cells hSw; go_simp; (try with_reducible rfl); done)); (try simp only [Act.put, List.setIfInBounds_toArray, List.set_cons_zero, List.set_cons_succ])
              refine wpAnyH_ready (rs := [13]) (by kernel_rfl) (by simp) ?_
              refine AllReadyH.cons (o := ⟨none, _, _, _, _, _⟩) rfl (fun K hK => ?_) AllReadyH.nil
              go_simp
              refine hK.out _ _ ?_ (fun hHeld2 => ?_)
              · with_reducible exact (two_other _ _ _ (Ne.symm NE.out)).trans BXD.out
              clear hK K hHeld; have hHeld := hHeld2; clear hHeld2; (try simp only [Act.put, List.setIfInBounds_toArray, List.set_cons_zero, List.set_cons_succ])
              refine wpAnyH_take (i := 14) (oi := ⟨some 5, _, _, _, _, _⟩) (v := ?_) rfl (by kernel_rfl) (by kernel_rfl) (by kernel_rfl) (fun _ _ _ h => h) ?_ (by assumption) ?_; rotate_left; (focus (refine Or.inl ⟨rfl, ?_⟩; intro w hSw; (try dsimp only at hSw); obtain ⟨s0, s1⟩ := two_cells hSw; go_simp; (try with_reducible rfl); done)); (try simp only [Act.put, List.setIfInBounds_toArray, List.set_cons_zero, List.set_cons_succ])
              refine wpAnyH_done (by kernel_rfl) ?_ _
              (try go_wp2)
              refine bodyPost_ret (results_cell_row_tmp rfl _ _ w.heap.size 38 #[.string (⟨#[]⟩ : ByteArray), .slice Au m1 cu] (0, 0) _ rfl (two_put ZD.out _ _) hu rfl (by exact sizeC)) rfl ?_
              exact cmdr_none (two_below (Nat.le_refl _) BD.out _ _)
            | true =>
              have hRs : R = some ⟨⟨#[]⟩, acc⟩ := by rw [← hr]; exact if_pos ⟨rfl, by rw [hm1]; exact beq_iff_eq.1 h1⟩
              subst hRs
              have h1i : ((m1 : Int) == 1) = true := beq_iff_eq.2 (by have := beq_iff_eq.1 h1; omega)
              have BXD := Lib.hid (blk_drew BO.out)
              have ZD := Lib.hid (blk_drew BZ.out)
              have BD := Lib.hid (below_drew HB.out)
              have SD := Lib.hid (show wr.heap.size ≤ wr.drew.heap.size by simp)
              have HOD := Lib.hid (Kd.R_below HO.out (below_drew (Below.refl _ _)))
              generalize hWD : wr.drew = wd at *
              refine wp_region_held_drew (S := (fun w' => w'.heap[go]? = some (.cells #[.string (⟨#[]⟩ : ByteArray), .slice Au m1 cu] 38 (0, 0)))) (by kernel_rfl) ?_ (fun hHeld => ?_)
              · rw [hWD]; exact BXD.out
              rw [hWD] at hHeld ⊢
              clear hWD
              have z0 := (blk_cell ZD.out 0).trans rfl; have fz0 := blk_frozen ZD.out 0
              have z1 := (blk_cell ZD.out 1).trans rfl; have fz1 := blk_frozen ZD.out 1
              refine wpAnyH_take (i := 0) (oi := ⟨some 75, _, _, _, _, _⟩) (v := ?_) rfl (by kernel_rfl) (by kernel_rfl) (by kernel_rfl) (fun _ _ _ h => h) ?_ (by assumption) ?_; rotate_left; (focus (refine Or.inl ⟨rfl, ?_⟩; intro w hSw; (try dsimp only at hSw); obtain ⟨s0, s1⟩ := two_cells hSw; go_simp; (try with_reducible rfl); done)); (try simp only [Act.put, List.setIfInBounds_toArray, List.set_cons_zero, List.set_cons_succ])
              refine wpAnyH_take (i := 1) (oi := ⟨some 76, _, _, _, _, _⟩) (v := ?_) rfl (by kernel_rfl) (by kernel_rfl) (by kernel_rfl) (fun _ _ _ h => h) ?_ (by assumption) ?_; rotate_left; (focus (refine Or.inl ⟨rfl, ?_⟩; intro w hSw; (try dsimp only at hSw); obtain ⟨s0, s1⟩ := two_cells hSw; go_simp; (try with_reducible rfl); done)); (try simp only [Act.put, List.setIfInBounds_toArray, List.set_cons_zero, List.set_cons_succ])
              refine wpAnyH_take (i := 2) (oi := ⟨some 77, _, _, _, _, _⟩) (v := ?_) rfl (by kernel_rfl) (by kernel_rfl) (by kernel_rfl) (fun _ _ _ h => h) ?_ (by assumption) ?_; rotate_left; (focus (refine Or.inl ⟨rfl, ?_⟩; intro w hSw; (try dsimp only at hSw); obtain ⟨s0, s1⟩ := two_cells hSw; go_simp; (try with_reducible rfl); done)); (try simp only [Act.put, List.setIfInBounds_toArray, List.set_cons_zero, List.set_cons_succ])
              refine wpAnyH_take (i := 3) (oi := ⟨some 78, _, _, _, _, _⟩) (v := ?_) rfl (by kernel_rfl) (by kernel_rfl) (by kernel_rfl) (fun _ _ _ h => h) ?_ (by assumption) ?_; rotate_left; (focus (refine Or.inl ⟨rfl, ?_⟩; intro w hSw; (try dsimp only at hSw); obtain ⟨s0, s1⟩ := two_cells hSw; go_simp; (try with_reducible rfl); done)); (try simp only [Act.put, List.setIfInBounds_toArray, List.set_cons_zero, List.set_cons_succ])
              refine wpAnyH_take (i := 4) (oi := ⟨some 79, _, _, _, _, _⟩) (v := ?_) rfl (by kernel_rfl) (by kernel_rfl) (by kernel_rfl) (fun _ _ _ h => h) ?_ (by assumption) ?_; rotate_left; (focus (refine Or.inl ⟨rfl, ?_⟩; intro w hSw; (try dsimp only at hSw); obtain ⟨s0, s1⟩ := two_cells hSw; go_simp; (try with_reducible rfl); done)); (try simp only [Act.put, List.setIfInBounds_toArray, List.set_cons_zero, List.set_cons_succ])
              (first | (refine wpAnyH_take (i := 5) (oi := ⟨some 80, _, _, _, _, _⟩) (v := ?_) rfl (by kernel_rfl) (by kernel_rfl) (by kernel_rfl) (fun _ _ _ h => h) ?_ (by assumption) ?_; rotate_left; (focus (refine Or.inl ⟨rfl, ?_⟩; intro w hSw; (try dsimp only at hSw); obtain ⟨s0, s1⟩ := two_cells hSw; go_simp; (try with_reducible rfl); done))) | (refine wpAnyH_take (i := 5) (oi := ⟨some 80, _, _, _, _, _⟩) (v := undef) rfl (by kernel_rfl) (by kernel_rfl) (by kernel_rfl) (fun _ _ _ h => h) (Or.inr ⟨rfl, rfl⟩) (by assumption) ?_)); (try simp only [Act.put, List.setIfInBounds_toArray, List.set_cons_zero, List.set_cons_succ])
              (first | (refine wpAnyH_take (i := 6) (oi := ⟨some 81, _, _, _, _, _⟩) (v := ?_) rfl (by kernel_rfl) (by kernel_rfl) (by kernel_rfl) (fun _ _ _ h => h) ?_ (by assumption) ?_; rotate_left; (focus (refine Or.inl ⟨rfl, ?_⟩; intro w hSw; (try dsimp only at hSw); obtain ⟨s0, s1⟩ := two_cells hSw; go_simp; (try with_reducible rfl); done))) | (refine wpAnyH_take (i := 6) (oi := ⟨some 81, _, _, _, _, _⟩) (v := undef) rfl (by kernel_rfl) (by kernel_rfl) (by kernel_rfl) (fun _ _ _ h => h) (Or.inr ⟨rfl, rfl⟩) (by assumption) ?_)); (try simp only [Act.put, List.setIfInBounds_toArray, List.set_cons_zero, List.set_cons_succ])
              (first | (refine wpAnyH_take (i := 7) (oi := ⟨some 82, _, _, _, _, _⟩) (v := ?_) rfl (by kernel_rfl) (by kernel_rfl) (by kernel_rfl) (fun _ _ _ h => h) ?_ (by assumption) ?_; rotate_left; (focus (refine Or.inl ⟨rfl, ?_⟩; intro w hSw; (try dsimp only at hSw); obtain ⟨s0, s1⟩ := two_cells hSw; go_simp; (try with_reducible rfl); done))) | (refine wpAnyH_take (i := 7) (oi := ⟨some 82, _, _, _, _, _⟩) (v := undef) rfl (by kernel_rfl) (by kernel_rfl) (by kernel_rfl) (fun _ _ _ h => h) (Or.inr ⟨rfl, rfl⟩) (by assumption) ?_)); (try simp only [Act.put, List.setIfInBounds_toArray, List.set_cons_zero, List.set_cons_succ])
              (first | (refine wpAnyH_take (i := 8) (oi := ⟨some 83, _, _, _, _, _⟩) (v := ?_) rfl (by kernel_rfl) (by kernel_rfl) (by kernel_rfl) (fun _ _ _ h => h) ?_ (by assumption) ?_; rotate_left; (focus (refine Or.inl ⟨rfl, ?_⟩; intro w hSw; (try dsimp only at hSw); obtain ⟨s0, s1⟩ := two_cells hSw; go_simp; (try with_reducible rfl); done))) | (refine wpAnyH_take (i := 8) (oi := ⟨some 83, _, _, _, _, _⟩) (v := undef) rfl (by kernel_rfl) (by kernel_rfl) (by kernel_rfl) (fun _ _ _ h => h) (Or.inr ⟨rfl, rfl⟩) (by assumption) ?_)); (try simp only [Act.put, List.setIfInBounds_toArray, List.set_cons_zero, List.set_cons_succ])
              (first | (refine wpAnyH_take (i := 9) (oi := ⟨some 84, _, _, _, _, _⟩) (v := ?_) rfl (by kernel_rfl) (by kernel_rfl) (by kernel_rfl) (fun _ _ _ h => h) ?_ (by assumption) ?_; rotate_left; (focus (refine Or.inl ⟨rfl, ?_⟩; intro w hSw; (try dsimp only at hSw); obtain ⟨s0, s1⟩ := two_cells hSw; go_simp; (try with_reducible rfl); done))) | (refine wpAnyH_take (i := 9) (oi := ⟨some 84, _, _, _, _, _⟩) (v := undef) rfl (by kernel_rfl) (by kernel_rfl) (by kernel_rfl) (fun _ _ _ h => h) (Or.inr ⟨rfl, rfl⟩) (by assumption) ?_)); (try simp only [Act.put, List.setIfInBounds_toArray, List.set_cons_zero, List.set_cons_succ])
              (first | (refine wpAnyH_take (i := 10) (oi := ⟨some 85, _, _, _, _, _⟩) (v := ?_) rfl (by kernel_rfl) (by kernel_rfl) (by kernel_rfl) (fun _ _ _ h => h) ?_ (by assumption) ?_; rotate_left; (focus (refine Or.inl ⟨rfl, ?_⟩; intro w hSw; (try dsimp only at hSw); obtain ⟨s0, s1⟩ := two_cells hSw; go_simp; (try with_reducible rfl); done))) | (refine wpAnyH_take (i := 10) (oi := ⟨some 85, _, _, _, _, _⟩) (v := undef) rfl (by kernel_rfl) (by kernel_rfl) (by kernel_rfl) (fun _ _ _ h => h) (Or.inr ⟨rfl, rfl⟩) (by assumption) ?_)); (try simp only [Act.put, List.setIfInBounds_toArray, List.set_cons_zero, List.set_cons_succ])
              (first | (refine wpAnyH_take (i := 11) (oi := ⟨some 86, _, _, _, _, _⟩) (v := ?_) rfl (by kernel_rfl) (by kernel_rfl) (by kernel_rfl) (fun _ _ _ h => h) ?_ (by assumption) ?_; rotate_left; (focus (refine Or.inl ⟨rfl, ?_⟩; intro w hSw; (try dsimp only at hSw); obtain ⟨s0, s1⟩ := two_cells hSw; go_simp; (try with_reducible rfl); done))) | (refine wpAnyH_take (i := 11) (oi := ⟨some 86, _, _, _, _, _⟩) (v := undef) rfl (by kernel_rfl) (by kernel_rfl) (by kernel_rfl) (fun _ _ _ h => h) (Or.inr ⟨rfl, rfl⟩) (by assumption) ?_)); (try simp only [Act.put, List.setIfInBounds_toArray, List.set_cons_zero, List.set_cons_succ])
              refine wpAnyH_take (i := 12) (oi := ⟨some 87, _, _, _, _, _⟩) (v := ?_) rfl (by kernel_rfl) (by kernel_rfl) (by kernel_rfl) (fun _ _ _ h => h) ?_ (by assumption) ?_; rotate_left; (focus (refine Or.inl ⟨rfl, ?_⟩; intro w hSw; (try dsimp only at hSw); obtain ⟨s0, s1⟩ := two_cells hSw; go_simp; (try with_reducible rfl); done)); (try simp only [Act.put, List.setIfInBounds_toArray, List.set_cons_zero, List.set_cons_succ])
              refine wpAnyH_ready (rs := [13]) (by kernel_rfl) (by simp) ?_
              refine AllReadyH.cons (o := ⟨none, _, _, _, _, _⟩) rfl (fun K hK => ?_) AllReadyH.nil
              go_simp
              refine hK.out _ _ ?_ (fun hHeld2 => ?_)
              · with_reducible exact (two_other _ _ _ (Ne.symm NE.out)).trans BXD.out
              clear hK K hHeld; have hHeld := hHeld2; clear hHeld2; (try simp only [Act.put, List.setIfInBounds_toArray, List.set_cons_zero, List.set_cons_succ])
              refine wpAnyH_take (i := 14) (oi := ⟨some 5, _, _, _, _, _⟩) (v := ?_) rfl (by kernel_rfl) (by kernel_rfl) (by kernel_rfl) (fun _ _ _ h => h) ?_ (by assumption) ?_; rotate_left; (focus (refine Or.inl ⟨rfl, ?_⟩; intro w hSw; (try dsimp only at hSw); obtain ⟨s0, s1⟩ := two_cells hSw; go_simp; (try with_reducible rfl); done)); (try simp only [Act.put, List.setIfInBounds_toArray, List.set_cons_zero, List.set_cons_succ])
              refine wpAnyH_done (by kernel_rfl) ?_ _
              (try go_wp2)
              refine bodyPost_ret (results_cell_row_tmp rfl _ _ w.heap.size 38 #[.string (⟨#[]⟩ : ByteArray), .slice Au m1 cu] (0, 0) _ rfl (two_put ZD.out _ _) hu rfl (by exact sizeC)) rfl ?_
              exact ⟨_, _, _, _, rfl, fun c h => (by injection h with h; subst h; exact ⟨rfl, hm1.symm, Kd.R_lower (R_base HOD.out (fun k hk _ => two_other _ _ k (by have := S1.out; have := S2.out; omega))) (below_size B2.out)⟩), two_below (Nat.le_refl _) BD.out _ _⟩
        | succ k2 =>
          have hlt : decide (i < n) = true := decide_eq_true (by omega)
          have hltn := eq_true (show i < n by omega)
          have hlt' : (i : Int) < (n : Int) := by omega
          have hi0 : (0 : Int) ≤ (i : Int) := by omega
          obtain ⟨ad', E2, e2, hade, hAt, hk2, hle⟩ := AtW.of_elemL HAn.out (i : Int) hi0 hlt'
          have hade' := Option.some.inj hade
          subst hade'
          clear hade
          have q0 := eq_true hi0
          have q1 := eq_true hlt'
          have wi' : IntKind.i64.wrap ((i : Int) + 1) = (i : Int) + 1 := by rw [i64_w]; exact wrap_small _ (by have := HLn.out; omega) (by have := HLn.out; omega)
          have hstep := rd_W l i (by rw [HN.out]; omega)
          have hm := HP.out _ (rd_mem l (i : Int) hi0 (by rw [HN.out]; exact hlt'))
          have hr := HR.out
          rw [hstep] at hr
          have ti : (i : Int).toNat = i := by omega
          rw [ti] at hAt
          generalize rd_T45 l (i : Int) = y at *
          obtain ⟨⟨a, q⟩, hq⟩ : ∃ p, refArgF y = p := ⟨_, rfl⟩
          have HLA := Lib.hid (by have h1 := refArg_len y; rw [hq] at h1; exact Nat.le_trans h1 hm.1 : a.f2.length ≤ 1048576)
          have CA := Lib.hid (refarg_at y E2 e2 w wr a q hq HB.out hk2 hle (by have := hm.1; omega) (by have := hm.2.1; omega) (fun s hs => by have := hm.2.2 s hs; omega))
          have hag := refArg_eq y
          rw [hq] at hag
          obtain ⟨b0, b1, b2, b3⟩ := hAt.below HB.out
          clear hAt hk2 hm hstep HR hi hq
          cases q with
          | false =>
            have hno : argR y = none := hag.trans (if_neg (by simp))
            rw [contG_no _ _ _ _ hno] at hr
            have hRn : R = none := hr.symm
            clear hr
            subst hRn
            clear hag hno
            go_wp2_with (first | (go_at_call 33; refine CA.out.mono ?_; rintro e w5 ⟨A5, c5, rfl, hk5, hb5⟩; have HK5 := Lib.hid hk5; have BZ5 := Lib.hid (blk_below BZ.out hb5); have BO5 := Lib.hid (blk_below BO.out hb5); have HB5 := Lib.hid (below_step HB.out hb5); have BN := Lib.hid (blk_new w5 zerosA); have NL := Lib.hid (Nat.ne_of_lt (blk_lt BZ5.out)); have NLo := Lib.hid (Nat.ne_of_lt (blk_lt BO5.out)); have LE := Lib.hid (below_size HB5.out); have HW5 := Lib.hid (below_size hb5); have HO5 := Lib.hid (Kd.R_below HO.out hb5); clear hk5 hb5) | ((with_reducible refine gate_store (t := 41) (p := 9) rfl ?_); refine row_event (by rfl) (by rfl) (by rfl) (by rfl) (by rfl) BN.out (by exact sizeA) (by rfl) (by first | rfl | simp [Value.oneCell']) ?_; intro w6 hz6 ho6 hb6; have Z6 := Lib.hid hz6; have BZ6 := Lib.hid ((ho6 _ NL.out).trans (blk_alloc BZ5.out zerosA)); have BO6 := Lib.hid ((ho6 _ NLo.out).trans (blk_alloc BO5.out zerosA)); have HB6 := Lib.hid (hb6 LE.out (below_alloc HB5.out zerosA)); have HB56 := Lib.hid (hb6 (Nat.le_refl _) (below_alloc (Below.refl w5.heap.size w5) zerosA)); have S6 := Lib.hid (blk_lt Z6.out); have d2 : w6.cell? ⟨w5.heap.size, 2, none⟩ = some (.slice A5 a.f2.length c5) := (blk_cell Z6.out 2).trans rfl; have u0 := (blk_cell BO6.out 0).trans rfl; have u1 := (blk_cell BO6.out 1).trans rfl; clear hb6 ho6 hz6) | ((with_reducible refine gate_store (t := 38) (p := 4) rfl ?_); refine row_event (by rfl) (by rfl) (by rfl) (by rfl) (by rfl) (by with_reducible first | exact BZ6.out) (by exact sizeC) (by rfl) (by first | rfl | simp [Value.oneCell']) ?_; intro w8 hz8 ho8 hb8; have Z8 := Lib.hid hz8; have HO8 := Lib.hid ho8; have HB8 := Lib.hid (hb8 (Nat.le_refl _) (by with_reducible first | exact HB6.out)); clear hb8 ho8 hz8))
            refine bodyPost_ret (results_cell_row_tmp rfl _ _ w.heap.size 38 _ (0, 0) _ rfl Z8.out hu rfl (by exact sizeC)) rfl ?_
            exact cmdr_none HB8.out
          | true =>
            have hyes : argR y = some a := hag.trans (if_pos rfl)
            rw [contG_yes _ _ _ _ hyes] at hr
            have HR2 := Aside0.mk hr
            clear hag hyes hr
            go_wp2_with (first | (go_at_call 33; refine CA.out.mono ?_; rintro e w5 ⟨A5, c5, rfl, hk5, hb5⟩; have HK5 := Lib.hid hk5; have BZ5 := Lib.hid (blk_below BZ.out hb5); have BO5 := Lib.hid (blk_below BO.out hb5); have HB5 := Lib.hid (below_step HB.out hb5); have BN := Lib.hid (blk_new w5 zerosA); have NL := Lib.hid (Nat.ne_of_lt (blk_lt BZ5.out)); have NLo := Lib.hid (Nat.ne_of_lt (blk_lt BO5.out)); have LE := Lib.hid (below_size HB5.out); have HW5 := Lib.hid (below_size hb5); have HO5 := Lib.hid (Kd.R_below HO.out hb5); clear hk5 hb5) | ((with_reducible refine gate_store (t := 41) (p := 9) rfl ?_); refine row_event (by rfl) (by rfl) (by rfl) (by rfl) (by rfl) BN.out (by exact sizeA) (by rfl) (by first | rfl | simp [Value.oneCell']) ?_; intro w6 hz6 ho6 hb6; have Z6 := Lib.hid hz6; have BZ6 := Lib.hid ((ho6 _ NL.out).trans (blk_alloc BZ5.out zerosA)); have BO6 := Lib.hid ((ho6 _ NLo.out).trans (blk_alloc BO5.out zerosA)); have HB6 := Lib.hid (hb6 LE.out (below_alloc HB5.out zerosA)); have HB56 := Lib.hid (hb6 (Nat.le_refl _) (below_alloc (Below.refl w5.heap.size w5) zerosA)); have S6 := Lib.hid (blk_lt Z6.out); have d2 : w6.cell? ⟨w5.heap.size, 2, none⟩ = some (.slice A5 a.f2.length c5) := (blk_cell Z6.out 2).trans rfl; have u0 := (blk_cell BO6.out 0).trans rfl; have u1 := (blk_cell BO6.out 1).trans rfl; clear hb6 ho6 hz6) | ((with_reducible refine gate_dst (N := 64) rfl ?_); refine Kd.R_lit Kd.string _ 9 ?hg (N := 64) ?hd (xs := ([] : List ByteArray)) (inner := []) (ok := fun _ => True) (okp := fun _ => True) ?hr ?hp (fun _ hk => hk) trivial (Below.refl _ _) (Nat.le_refl _) (by simp) ?_; (case hd => rfl); (case hg => rfl); (case hr => first | (go_simp; done) | (go_simp; rfl)); (case hp => exact (Reps.none _ _)); intro v7 w7 ho7 hb7 hg7 hn7; have HO7 := Lib.hid ho7; have HB67 := Lib.hid hb7; clear d2; have d2 : w7.cell? ⟨w5.heap.size, 2, none⟩ = some (.slice A5 a.f2.length c5) := (blk_cell (blk_below Z6.out HB67.out) 2).trans rfl; clear u0 u1 ho7 hb7 hg7 hn7) | ((with_reducible refine gate_builtin (b := .append) (xs := #[.tmp 64, .tmp 66]) rfl ?_); at_builtin; refine Kd.R_append_rows Kd.string (w0 := w7) w6.heap.size rfl (.tmp 64) (.tmp 66) 39 9 (.string ⟨#[]⟩) 16 rfl Try.underlying39 info9 rfl (by decide) (by omega) v7 [] a.f2 _ _ _ (fun _ => True) (fun _ => False) rfl rfl ?aO ?aR (fun _ _ h => h) (fun _ h => h.elim) ?aF ?aB ?aS ?aL ?_; (case aR => exact Kd.C_below HK5.out (below_step HB6.out HB67.out)); (case aB => exact Below.refl _ _); (case aF => exact (fun _ _ => trivial)); (case aO => exact HO7.out); (case aS => exact below_size HB67.out); (case aL => have h1 := HLA.out; simp; omega); intro v8 w8 hr8 hb8 hg8 hat8; rw [List.nil_append] at hr8; obtain ⟨A8, c8, rfl⟩ := Kd.R_slice hr8; have HB68 := Lib.hid (HB67.out.trans hb8); have Z8 := Lib.hid (blk_below Z6.out HB68.out); have fz8 := blk_frozen Z8.out 2; have d8 : w8.cell? ⟨w5.heap.size, 2, none⟩ = some (.slice A5 a.f2.length c5) := (blk_cell Z8.out 2).trans rfl; have HB59 := Lib.hid (show Below w5.heap.size w5 (w8.setCell ⟨w5.heap.size, 2, none⟩ (.slice A8 a.f2.length c8)) from below_set (below_step HB56.out HB68.out) (Nat.le_refl _)); have ZP := Lib.hid (show (w8.setCell ⟨w5.heap.size, 2, none⟩ (.slice A8 a.f2.length c8)).heap[w5.heap.size]? = some (.cells #[.int .i64 a.f0, .string a.f1, .slice A8 a.f2.length c8, .int .i64 a.f3, .string a.f4] 41 (0, 0)) from blk_put Z8.out 2 _ rfl); have y0 := (blk_cell ZP.out 0).trans rfl; have y1 := (blk_cell ZP.out 1).trans rfl; have y2 := (blk_cell ZP.out 2).trans rfl; have y3 := (blk_cell ZP.out 3).trans rfl; have y4 := (blk_cell ZP.out 4).trans rfl; have BO8 := Lib.hid (blk_below BO5.out HB59.out); have y5 := (blk_cell BO8.out 1).trans rfl; have HR8 := Lib.hid (R_base hr8 (fun k hk _ => (Below.heap_setCell w8 ⟨w5.heap.size, 2, none⟩ (.slice A8 a.f2.length c8) k (by have := S6.out; show k ≠ w5.heap.size; omega)))); clear d2 hr8 hb8 hg8 hat8) | ((with_reducible refine gate_builtin (b := .append) (xs := #[.tmp 70, .tmp 72]) rfl ?_); at_builtin; refine Kd.R_append kA (w0 := (w8.setCell ⟨w5.heap.size, 2, none⟩ (.slice A8 a.f2.length c8))) w2.heap.size rfl (.tmp 70) (.tmp 72) 36 41 (.agg #[(.int .i64 0), (.string ⟨#[]⟩), (.slice none 0 0), (.int .i64 0), (.string ⟨#[]⟩)]) 72 rfl Try.underlying36 info41 rfl (by decide) (by omega) (.slice Au acc.length cu) acc a [.int .i64 a.f0, .string a.f1, .slice A8 a.f2.length c8, .int .i64 a.f3, .string a.f4] (fun _ => True) (fun k => wr.heap.size ≤ k) rfl (by show Value.slice (some ⟨w8.heap.size, 0, none⟩) 1 1 = _; simp) ?aP ?aK (fun _ _ => trivial) ?aO (Below.refl _ _) ?aS ?aL ?_; (case aP => exact k41_mkM _ _ _ a (Kd.R_mono (Kd.R_lower (Kd.R_bound HR8.out) (by have h1 := HS.out; have h2 := HW5.out; have h3 := S6.out; omega)) (fun k hk => by have h1 := hk.2.1; have h2 := HW5.out; have h3 := S6.out; omega))); (case aK => exact (fun k hk => ⟨trivial, fun he => by have := (R_lt HO.out k he.symm).2; omega⟩)); (case aO => exact (Kd.R_below HO5.out HB59.out)); (case aS => exact (by have h1 := HS.out; have h2 := HW5.out; have h3 := below_size HB59.out; omega)); (case aL => have h1 := HAC.out; have h2 := HLn.out; have h3 := HI.out; omega); intro v9 w9 hr9 hb9 hg9 hat9; obtain ⟨A9, c9, rfl⟩ := Kd.R_slice hr9; have hla : (acc ++ [a]).length = acc.length + 1 := (by simp); rw [hla] at hr9; clear hla; have HR9 := Lib.hid hr9; have HB9 := Lib.hid ((below_step HB5.out HB59.out).trans (hb9.mono (by have := S1.out; have := S2.out; omega))); have SZ9 := Lib.hid (by have h1 := HS.out; have h2 := HW5.out; have h3 := below_size HB59.out; have h4 := hb9.size; omega : w2.heap.size ≤ w9.heap.size); have BZ9 := Lib.hid (blk_grown (blk_below BZ5.out HB59.out) hg9 (fun he => by have h1 := (R_lt HO.out _ he.symm).1; have h2 := S1.out; have h3 := S2.out; omega)); have BO9 := Lib.hid (blk_grown BO8.out hg9 (fun he => by have h1 := (R_lt HO.out _ he.symm).1; have h3 := S2.out; omega)); have r1 : w9.cell? ⟨go, 1, none⟩ = some (.slice Au acc.length cu) := (blk_cell BO9.out 1).trans rfl; have fr1 := blk_frozen BO9.out 1; clear y0 y1 y2 y3 y4 y5 hr9 hb9 hg9 hat9))
            go_roundg k2
            case measure => omega
            case rel => exact ⟨i + 1, acc ++ [a], .slice A9 (acc.length + 1) c9, by simp, ⟨by have := HI.out; omega⟩, ⟨by rw [List.length_append]; have := HAC.out; simp; omega⟩, HR2, ⟨R_base HR9.out (fun k hk _ => Below.heap_setCell _ _ _ k (by have := S2.out; show k ≠ go; omega))⟩, ⟨blk_far BZ9.out NE.out _⟩, ⟨blk_put BO9.out 1 _ rfl⟩, ⟨below_set HB9.out (by have := S1.out; omega)⟩, ⟨by simpa using SZ9.out⟩⟩
end Go.Proofs.Ythaapadjlknieaa.Pipe
