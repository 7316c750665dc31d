/- Package eval, walked: a command's value. -/
import Derived.Test.YtdghnfmhcnlppaaGreatDoorEvalC
import Derived.Deep.RegionHeld3
namespace Go.Proofs.YtdghnfmhcnlppaaGreatDoor.Eval
open Go.RowKit Go.Proofs.YtdghnfmhcnlppaaGreatDoor.Q Go.Proofs.YtdghnfmhcnlppaaGreatDoor.Real Go.Proofs.YtdghnfmhcnlppaaGreatDoor.RealPure Go.Proofs.YtdghnfmhcnlppaaGreatDoor.Values Go.Proofs.YtdghnfmhcnlppaaGreatDoor.Fns Go.Proofs.YtdghnfmhcnlppaaGreatDoorW.PrintWords Go.Proofs.YtdghnfmhcnlppaaGreatDoorW.PrintLast Go.Proofs.YtdghnfmhcnlppaaGreatDoorW.PrintMore
set_option linter.unusedSimpArgs false
set_option linter.unusedVariables false

/-- Elements whose rows lie where they lay in an elder world. -/
def oldK {α : Type} (d : Kd α) (w0 : World) : Kd α where
  sz := d.sz
  E := d.E
  K := fun w x cs => d.K w0 x cs
  M := fun w base ok x cs => d.K w0 x cs
  K_len := fun {w x cs} h => d.K_len h
  K_one := fun {w x cs} h => d.K_one h
  K_below := fun {w w1 x cs} hb h => h
  K_of_M := fun {w base ok x cs} h => h
  M_mono := fun {w base ok ok' x cs} hok h => h
  M_bound := fun {w base ok x cs} h => h
  M_move := fun {w w1 base ok x cs} hm h => h
  M_lower := fun {w base base' ok x cs} hb h => h
theorem old_C {α : Type} {d : Kd α} {w w1 : World} {A : Option Addr} {n : Nat} {xs : List α} (h : (oldK d w).C w1 A n xs) (hb : Below w.heap.size w w1) : d.C w1 A n xs :=
  ReadsRow.imp_ h (Below.refl _ _) (fun p c hp => d.K_below hb hp)
theorem old_R {α : Type} {d : Kd α} {w0 w w1 : World} {e base : Nat} {ok : Nat → Prop} {v : Value} {xs : List α} (h : (oldK d w0).R e w1 base ok v xs) (hb : Below w0.heap.size w0 w) : (oldK d w).R e w1 base ok v xs :=
  Kd.R_imp (d := oldK d w0) (d' := oldK d w) rfl (fun _ _ _ _ _ hp => d.K_below hb (hp : d.K w0 _ _)) h
theorem old_elem {w w1 : World} {A : Option Addr} {n : Nat} {xs : List V} (h : (oldK k27 w).C w1 A n xs) (i : Int) (h0 : 0 ≤ i) (h1 : i < n) :
    ∃ ad A4 c4 A5 c5, A = some ad ∧ At w1 (ad.add (i.toNat * 6)) (rd_T27 xs i) A4 c4 A5 c5 ∧ Rows4 w (rd_T27 xs i) A4 c4 A5 c5 := by
  obtain ⟨ad, c, e, _, hK, hc0⟩ := Kd.C_get h z27 i h0 h1
  have hc : ∀ j u, c[j]? = some u → w1.cell? (ad.add (i.toNat * 6 + j)) = some u := hc0
  obtain ⟨A4, c4, A5, c5, rfl, l4, g4, l5, g5⟩ := k27_open (hK : k27.K w _ c)
  exact ⟨ad, A4, c4, A5, c5, e, ⟨hc 0 _ rfl, by rw [← add_field _ _ 1 (by omega)]; exact hc 1 _ rfl, by rw [← add_field _ _ 2 (by omega)]; exact hc 2 _ rfl, by rw [← add_field _ _ 3 (by omega)]; exact hc 3 _ rfl, by rw [← add_field _ _ 4 (by omega)]; exact hc 4 _ rfl, by rw [← add_field _ _ 5 (by omega)]; exact hc 5 _ rfl⟩, ⟨g4, l4, g5, l5⟩⟩
def SameFrom (b : Nat) (W W1 : World) : Prop := ∀ k, b ≤ k → k < W.heap.size → W1.heap[k]? = W.heap[k]?
theorem same_alloc (W : World) (o : Obj) (b : Nat) : SameFrom b W (W.alloc o) := fun k _ hk => (below_alloc (Below.refl W.heap.size W) o).block k hk
theorem same_set {b : Nat} {W W1 : World} (h : SameFrom b W W1) {g : Nat} (hg : g < b) (j : Nat) (v : Value) : SameFrom b W (W1.setCell ⟨g, j, none⟩ v) :=
  fun k hk hl => (Below.heap_setCell W1 ⟨g, j, none⟩ v k (by show k ≠ g; omega)).trans (h k hk hl)
theorem same_six {W : World} {b g : Nat} (hg : g < b) (v0 v1 v2 v3 v4 v5 : Value) :
    SameFrom b W ((((((W.setCell ⟨g, 0, none⟩ v0).setCell ⟨g, 1, none⟩ v1).setCell ⟨g, 2, none⟩ v2).setCell ⟨g, 3, none⟩ v3).setCell ⟨g, 4, none⟩ v4).setCell ⟨g, 5, none⟩ v5) :=
  same_set (same_set (same_set (same_set (same_set (same_set (fun _ _ _ => rfl) hg 0 v0) hg 1 v1) hg 2 v2) hg 3 v3) hg 4 v4) hg 5 v5
/-- A value's rows lie in blocks of a call's own, from b on. -/
def OwnV (W : World) (b : Nat) (x : V) (E : Option Addr) (e : Nat) (F : Option Addr) (f : Nat) : Prop :=
  ∃ ok ok' : Nat → Prop, Kd.R k27 27 W b ok (.slice E x.f4.length e) x.f4 ∧ Kd.R Kd.string 9 W b ok' (.slice F x.f5.length f) x.f5
theorem own_mk {W : World} {b : Nat} {x : V} {E : Option Addr} {e : Nat} {F : Option Addr} {f : Nat} {ok ok' : Nat → Prop} (h4 : Kd.R k27 27 W b ok (.slice E x.f4.length e) x.f4) (h5 : Kd.R Kd.string 9 W b ok' (.slice F x.f5.length f) x.f5) : OwnV W b x E e F f := ⟨ok, ok', h4, h5⟩
theorem OwnV.same {W W1 : World} {b : Nat} {x : V} {E : Option Addr} {e : Nat} {F : Option Addr} {f : Nat} (h : OwnV W b x E e F f) (hs : SameFrom b W W1) : OwnV W1 b x E e F f := by
  obtain ⟨ok, ok', h4, h5⟩ := h
  exact ⟨_, _, Kd.R_move (Kd.R_bound h4) (fun k hk => hs k hk.2.1 hk.2.2.1), Kd.R_move (Kd.R_bound h5) (fun k hk => hs k hk.2.1 hk.2.2.1)⟩
theorem OwnV.lower {W : World} {b b' : Nat} {x : V} {E : Option Addr} {e : Nat} {F : Option Addr} {f : Nat} (h : OwnV W b x E e F f) (hb : b' ≤ b) : OwnV W b' x E e F f := by
  obtain ⟨ok, ok', h4, h5⟩ := h
  exact ⟨ok, ok', Kd.R_lower h4 hb, Kd.R_lower h5 hb⟩
theorem OwnV.rows {W : World} {b : Nat} {x : V} {E : Option Addr} {e : Nat} {F : Option Addr} {f : Nat} (h : OwnV W b x E e F f) : Rows4 W x E e F f := by
  obtain ⟨ok, ok', h4, h5⟩ := h
  obtain ⟨_, l4, k4⟩ := Kd.R_reads' h4
  obtain ⟨_, l5, k5⟩ := Kd.R_reads' h5
  exact ⟨k4, l4, k5, l5⟩
/-- How a command ends: its answer's rows are old ones, or of its own. -/
def EndsC (w0 w : World) (R : V × Int) (e : Ending) (w' : World) : Prop :=
  (if R.2 = 0 then ∃ B4 d4 B5 d5, e = .returned (arg R.1 B4 d4 B5 d5) ∧ (Rows4 w0 R.1 B4 d4 B5 d5 ∨ OwnV w' w.heap.size R.1 B4 d4 B5 d5) else e = .panicked (chain R.2)) ∧ Below w.heap.size w w'
theorem endsC_old {w0 w w' : World} {x : V} {B4 : Option Addr} {d4 : Nat} {B5 : Option Addr} {d5 : Nat} (h : Rows4 w0 x B4 d4 B5 d5) (hb : Below w.heap.size w w') : EndsC w0 w (x, 0) (.returned (arg x B4 d4 B5 d5)) w' :=
  ⟨⟨B4, d4, B5, d5, rfl, .inl h⟩, hb⟩
theorem endsC_own {w0 w w' : World} {x : V} {B4 : Option Addr} {d4 : Nat} {B5 : Option Addr} {d5 : Nat} (h : OwnV w' w.heap.size x B4 d4 B5 d5) (hb : Below w.heap.size w w') : EndsC w0 w (x, 0) (.returned (arg x B4 d4 B5 d5)) w' :=
  ⟨⟨B4, d4, B5, d5, rfl, .inr h⟩, hb⟩
theorem endsC_no {w0 w w' : World} {x : V} {n : Int} (hn : n ≠ 0) (hb : Below w.heap.size w w') : EndsC w0 w (x, n) (.panicked (chain n)) w' := by
  refine ⟨?_, hb⟩
  rw [if_neg hn]
theorem rd_A (xs : List Ag) (i : Nat) (hi : i < xs.length) : xs.drop i = rd_T57 xs (i : Int) :: xs.drop (i + 1) := Pipe.rd_A xs i hi
/-- What is still to come of the arguments, some being there. -/
def contA (e : En) (acc : List V) (l : List Ag) : List V × Int := (acc ++ (argsR e l).1, (argsR e l).2)
theorem contA_nil (e : En) (acc : List V) : contA e acc [] = (acc, 0) := by unfold contA argsR; rw [List.append_nil]
theorem contA_no (e : En) (acc : List V) (a : Ag) (l : List Ag) (h : (argR e a).2 ≠ 0) : contA e acc (a :: l) = (acc, (argR e a).2) := by unfold contA argsR; rw [if_neg h, List.append_nil]
theorem contA_yes (e : En) (acc : List V) (a : Ag) (l : List Ag) (h : (argR e a).2 = 0) : contA e acc (a :: l) = contA e (acc ++ [(argR e a).1]) l := by
  unfold contA
  rw [argsR, if_pos h, List.append_assoc]
  rfl

set_option maxHeartbeats 16000000 in
set_option maxRecDepth 100000 in
theorem cmd_calls (c : Cm) (pc : Addr) (F1 : Option Addr) (f1 : Nat) (e : En) (A4 : Option Addr) (c4 : Nat) (A5 : Option Addr) (c5 : Nat) (A6 : Option Addr) (c6 : Nat) (g : Nat) (B : Option Addr) (cb : Nat) (before : List V) (w0 w : World) (hb0 : Below w0.heap.size w0 w)
    (hE : w.heap[g]? = some (envO e A4 c4 A5 c5 A6 c6)) (h : RowsE w0 e A4 c4 A5 c5 A6 c6) (hp0 : w0.cell? pc = some (.string c.f0)) (hp1 : w0.cell? ⟨pc.block, pc.off + 1, none⟩ = some (.slice F1 c.f1.length f1)) (hk1 : Kd.C kA w0 F1 c.f1.length c.f1)
    (hfew : c.f1.length ≤ 8) (hpath : ∀ a ∈ c.f1, a.f2.length < 1099511627776) (hone : (c.f0.toList == ([] : List UInt8)) = true → c.f1.length = 1) (hbf : Kd.C k27 w B before.length before) (hbl : before.length ≤ 1) (hok : envB e = true) (hT : Tabs w)
    (hrb : ∀ z ∈ before, rngD 8 z) (hra : ∀ a ∈ c.f1, rngD 8 (argR e a).1) :
    Calls Tryz.prog 43 #[.pointer (some pc), .pointer (some ⟨g, 0, none⟩), .slice B before.length cb] w (EndsC w0 w (cmdR e before c)) := by
  have hu27 := Tryz.underlying27
  have HB0 := Lib.hid hb0; have HFEW := Lib.hid hfew; have HBF := Lib.hid hbf; have HBL := Lib.hid hbl; have HONE := Lib.hid hone; have HK1 := Lib.hid hk1; have HT := Lib.hid hT
  have A2 := Lib.hid (blk_new w zeros)
  have A3 := Lib.hid (below_alloc (Below.refl _ w) zeros)
  have S1 := Lib.hid (show w.heap.size < (w.alloc zeros).heap.size by simp)
  have HARG := Lib.hid (fun (a : Ag) (pa : Addr) (G2 : Option Addr) (g2 : Nat) (hA : Pipe.AtA w0 pa a G2 g2) (hk2 : Kd.C Kd.string w0 G2 a.f2.length a.f2) (hin : a ∈ c.f1) W (hb : Below w.heap.size w W) => arg_calls a pa G2 g2 e A4 c4 A5 c5 A6 c6 g w0 W (below_step hb0 hb) (blk_below hE hb) h hA hk2 (hpath a hin) hok)
  have P04 := Lib.hid (pw_cell_below (below_step hb0 A3.out) hp0)
  have P14 := Lib.hid (pw_cell_below (below_step hb0 A3.out) hp1)
  have HRA := Lib.hid hra; have HRB := Lib.hid hrb
  clear hb0 hE h hp0 hp1 hk1 hfew hpath hone hbf hbl hok hT hra hrb
  obtain ⟨n, hn⟩ : ∃ n, c.f1.length = n := ⟨_, rfl⟩
  have HN := Lib.hid hn
  rw [hn] at P14 HFEW
  clear hn
  obtain ⟨⟨XS, N⟩, hR⟩ : ∃ R, argsR e c.f1 = R := ⟨_, rfl⟩
  have hC : contA e [] (c.f1.drop 0) = (XS, N) := by unfold contA; rw [List.drop_zero, hR]; rfl
  obtain ⟨RR, hRR⟩ : ∃ RR, cmdR e before c = RR := ⟨_, rfl⟩
  have HRR := Lib.hid hRR
  rw [hRR]
  have HRS := Lib.hid hR
  clear hR hRR
  go_enter Tryz.func43, Tryz.ntmps43
  go_upto_region 1 with (fail)
  generalize hw4 : w.alloc zeros = w4 at *
  clear hw4
  have p0 := P04.out
  have p1 := P14.out
  go_wp2
  go_loopg [16, 7] n (fun kq v16 v7 wr => ∃ (i : Nat) (acc : List V), v16 = .int .i64 (i : Int) ∧ Aside0 (i + kq = n) ∧ Aside0 (acc.length = i) ∧ Aside0 (contA e acc (c.f1.drop i) = (XS, N)) ∧ Aside0 (∀ z ∈ acc, rngD 8 z) ∧ Aside0 ((oldK k27 w0).R 27 wr w4.heap.size (fun _ => True) v7 acc) ∧ Aside0 (Below w4.heap.size w4 wr))
  case atStart => exact ⟨0, [], rfl, ⟨by omega⟩, ⟨rfl⟩, ⟨hC⟩, ⟨fun z hz => by cases hz⟩, ⟨Kd.R_nil _ _ _ _ _⟩, ⟨Below.refl _ _⟩⟩
  case round =>
    clear hC p0 p1
    obtain ⟨i, acc, rfl, HI, HAC, HM, HRN, HO, HB⟩ := hrel
    have hi := HI.out
    obtain ⟨Av, cv, rfl⟩ := Kd.R_slice HO.out
    have p0 := pw_cell_below HB.out P04.out
    have p1 := pw_cell_below HB.out P14.out
    cases gk with
    | succ k2 =>
      have hlt : decide (i < n) = true := decide_eq_true (by omega)
      have hltn := eq_true (show i < n by omega)
      obtain ⟨ad, G2, g2, rfl, hAt, hlc, hk2⟩ := Pipe.AtA.of_elem HK1.out (i : Int) (by omega) (by have := HN.out; omega)
      have ti : (i : Int).toNat = i := by omega
      rw [ti] at hAt
      have wi' : IntKind.i64.wrap ((i : Int) + 1) = (i : Int) + 1 := by rw [i64_w]; exact Values.wrap_small _ (by have := HFEW.out; omega) (by have := HFEW.out; omega)
      have hstep := rd_A c.f1 i (by have := HN.out; omega)
      have hin : rd_T57 c.f1 (i : Int) ∈ c.f1 := List.mem_of_mem_drop (i := i) (by rw [hstep]; exact List.mem_cons_self)
      have hM := HM.out
      rw [hstep] at hM
      have hr8 := HRA.out _ hin
      generalize rd_T57 c.f1 (i : Int) = a at *
      have CA := Lib.hid (HARG.out a _ G2 g2 hAt hk2 hin wr (below_step A3.out HB.out))
      clear hAt hlc hk2 hin hstep HM hi
      obtain ⟨⟨x, m⟩, hx⟩ : ∃ r, argR e a = r := ⟨_, rfl⟩
      rw [hx] at CA hr8
      by_cases hm : m = 0
      · subst hm
        rw [contA_yes _ _ _ _ (by rw [hx]), hx] at hM
        have HM2 := Aside0.mk hM
        have HRN2 := Aside0.mk (show ∀ z ∈ acc ++ [x], rngD 8 z from fun z hz => by
          rcases List.mem_append.1 hz with h | h
          · exact HRN.out z h
          · rw [List.mem_singleton.1 h]; exact hr8)
        clear hM hx hr8 HRN
        go_wp2_with (first | (go_at_call 74; (with_reducible refine CA.out.mono ?_); rintro en w5 he; obtain ⟨B4, d4, B5, d5, rfl, hr5, hb5⟩ := ends_get he; have RW := Lib.hid hr5; have HB5 := Lib.hid (below_step HB.out hb5); have HO5 := Lib.hid (Kd.R_below HO.out hb5); clear he hr5 hb5) | ((with_reducible refine gate_builtin (b := .append) (xs := #[.tmp 19, .tmp 28]) rfl ?_); at_builtin; refine Kd.R_append (oldK k27 w0) (w0 := w4) w4.heap.size rfl (.tmp 19) (.tmp 28) 24 27 (.agg #[(.int .i64 0), (.int .i64 0), (.int .u64 0), (.string ⟨#[]⟩), (.slice none 0 0), (.slice none 0 0)]) 88 rfl Tryz.underlying24 info27 rfl (by exact Nat.succ_pos 5) (by decide) (.slice Av acc.length cv) acc x [.int .i64 x.f0, .int .i64 x.f1, .int .u64 x.f2, .string x.f3, .slice B4 x.f4.length d4, .slice B5 x.f5.length d5] (fun _ => True) (fun _ => False) rfl rfl ?aP (fun _ h => h.elim) (fun _ _ => trivial) ?aO HB5.out ?aS ?aL ?_; (case aP => exact k27_mk w0 x RW.out.l4 RW.out.k4 RW.out.l5 RW.out.k5); (case aO => exact HO5.out); (case aS => exact below_size HB5.out); (case aL => have h1 := HFEW.out; have h2 := HAC.out; have h3 := HI.out; omega); intro v9 w9 hr9 hb9 hg9 hat9; have HO9 := Aside0.mk hr9; have HB9 := Aside0.mk hb9; clear hr9 hb9 hg9 hat9))
        go_roundg k2
        case measure => omega
        case rel => exact ⟨i + 1, acc ++ [x], by simp, ⟨by have := HI.out; omega⟩, ⟨by rw [List.length_append, HAC.out]; rfl⟩, HM2, HRN2, HO9, HB9⟩
      · rw [contA_no _ _ _ _ (by rw [hx]; exact hm), hx] at hM
        have hN : m = N := (Prod.mk.inj hM).2
        subst hN
        have HE2 := Lib.hid (show RR = (z27, m) by rw [← HRR.out]; unfold cmdR; rw [HRS.out]; exact if_neg hm)
        have HMm := Lib.hid hm
        clear hM hx hr8 hm
        go_wp2_with (first | (go_at_call 74; (with_reducible refine CA.out.mono ?_); rintro en w5 he; obtain ⟨rfl, hb5⟩ := ends_err HMm.out he; have HB5 := Lib.hid (below_step HB.out hb5); clear he hb5))
        rw [HE2.out]
        exact ⟨rfl, endsC_no HMm.out (below_step A3.out HB5.out)⟩
    | zero =>
      have hlt : decide (i < n) = false := decide_eq_false (by omega)
      have hM := HM.out
      rw [List.drop_of_length_le (by have := HN.out; omega), contA_nil] at hM
      obtain ⟨e1, e2⟩ := Prod.mk.inj hM
      subst e1 e2
      clear hM HM
      obtain ⟨q, hq⟩ : ∃ q, (c.f0.toList == ([] : List UInt8)) = q := ⟨_, rfl⟩
      cases q
      · have HE2 := Lib.hid (show RR = callR c.f0 (acc ++ before) by rw [← HRR.out]; unfold cmdR; rw [HRS.out, hq]; rfl)
        have HLA := Lib.hid (show acc.length = n by have := HI.out; have := HAC.out; omega)
        obtain ⟨ys, hys⟩ : ∃ ys, acc ++ before = ys := ⟨_, rfl⟩
        have HYS := Lib.hid hys
        have CC := Lib.hid (fun W (A1 : Option Addr) (c1 : Nat) (hb : Below w.heap.size w W) (hc : Kd.C k27 W A1 ys.length ys) => Call_calls c.f0 ys A1 c1 W ⟨HT.out.below hb, by rw [← HYS.out, List.length_append]; have h1 := HFEW.out; have h2 := HLA.out; have h3 := HBL.out; omega, hc, fun z hz => by
          rw [← HYS.out] at hz
          rcases List.mem_append.1 hz with h | h
          · exact HRN.out z h
          · exact HRB.out z h⟩)
        obtain ⟨⟨X, N⟩, hX⟩ : ∃ r, callR c.f0 ys = r := ⟨_, rfl⟩
        have HRX := Lib.hid (show RR = (X, N) by rw [HE2.out, hys, hX])
        rw [hX] at CC
        have HO0 := Lib.hid (old_R HO.out HB0.out)
        clear hys hX HE2 HRR HRS HO HRN HRB HRA HARG HK1 hi
        have HO := HO0
        clear HO0
        go_upto_region 9 with (fail)
        go_cut [9, 10] (fun v9 v10 wc => ∃ (gn : Nat) (E : Option Addr) (e4 : Nat) (Fa : Option Addr) (f4 : Nat), v9 = .pointer (some ⟨gn, 0, none⟩) ∧ v10 = .int .i64 N ∧ Aside0 (Below w4.heap.size w4 wc) ∧ Aside0 (wc.heap[gn]? = some (.cells #[.int .i64 X.f0, .int .i64 X.f1, .int .u64 X.f2, .string X.f3, .slice E X.f4.length e4, .slice Fa X.f5.length f4] 27 (0, 0))) ∧ Aside0 (OwnV wc w4.heap.size X E e4 Fa f4))
        case first =>
          have HBd := Lib.hid (below_drew HB.out)
          have HOd := Lib.hid (Kd.R_drew HO.out)
          have KEEP := Lib.hid (show ∀ w', Below w4.heap.size w4 w' → (fun w' => Below w4.heap.size w4 w' ∧ w'.cell? pc = some (.string c.f0)) w' from fun w' h => ⟨h, pw_cell_below h P04.out⟩)
          clear p0 p1
          refine wp_region_held_drew (S := (fun w' => Below w4.heap.size w4 w' ∧ w'.cell? pc = some (.string c.f0))) (by kernel_rfl) ?_ (fun hHeld => ?_)
          · exact KEEP.out _ HBd.out
          generalize wr.drew = wd at *
          refine wpAnyH_take (i := 0) (oi := ⟨some 40, _, _, _, _, _⟩) (v := ?_) rfl (by as_aux_lemma => kernel_rfl) (by as_aux_lemma => kernel_rfl) (by as_aux_lemma => kernel_rfl) (fun _ _ _ h => h) ?_ (by assumption) ?_; rotate_left; (focus (refine Or.inl ⟨rfl, ?_⟩; intro w hSw; (try dsimp only at hSw); go_simp; (try with_reducible rfl); done)); (try simp only [Act.put, List.setIfInBounds_toArray, List.set_cons_zero, List.set_cons_succ])
          refine wpAnyH_take (i := 1) (oi := ⟨some 41, _, _, _, _, _⟩) (v := ?_) rfl (by as_aux_lemma => kernel_rfl) (by as_aux_lemma => kernel_rfl) (by as_aux_lemma => kernel_rfl) (fun _ _ _ h => h) ?_ (by assumption) ?_; rotate_left; (focus (refine Or.inl ⟨rfl, ?_⟩; intro w hSw; (try dsimp only at hSw); go_simp; (try with_reducible rfl); done)); (try simp only [Act.put, List.setIfInBounds_toArray, List.set_cons_zero, List.set_cons_succ])
          refine wpAnyH_take (i := 2) (oi := ⟨some 42, _, _, _, _, _⟩) (v := ?_) rfl (by as_aux_lemma => kernel_rfl) (by as_aux_lemma => kernel_rfl) (by as_aux_lemma => kernel_rfl) (fun _ _ _ h => h) ?_ (by assumption) ?_; rotate_left; (focus (refine Or.inl ⟨rfl, ?_⟩; intro w hSw; (try dsimp only at hSw); go_simp; (try with_reducible rfl); done)); (try simp only [Act.put, List.setIfInBounds_toArray, List.set_cons_zero, List.set_cons_succ])
          refine wpAnyH_take (i := 3) (oi := ⟨some 43, _, _, _, _, _⟩) (v := ?_) rfl (by as_aux_lemma => kernel_rfl) (by as_aux_lemma => kernel_rfl) (by as_aux_lemma => kernel_rfl) (fun _ _ _ h => h) ?_ (by assumption) ?_; rotate_left; (focus (refine Or.inl ⟨rfl, ?_⟩; intro w hSw; (try dsimp only at hSw); go_simp; (try with_reducible rfl); done)); (try simp only [Act.put, List.setIfInBounds_toArray, List.set_cons_zero, List.set_cons_succ])
          refine wpAnyH_take (i := 4) (oi := ⟨some 44, _, _, _, _, _⟩) (v := ?_) rfl (by as_aux_lemma => kernel_rfl) (by as_aux_lemma => kernel_rfl) (by as_aux_lemma => kernel_rfl) (fun _ _ _ h => h) ?_ (by assumption) ?_; rotate_left; (focus (refine Or.inl ⟨rfl, ?_⟩; intro w hSw; (try dsimp only at hSw); go_simp; (try with_reducible rfl); done)); (try simp only [Act.put, List.setIfInBounds_toArray, List.set_cons_zero, List.set_cons_succ])
          refine wpAnyH_take (i := 5) (oi := ⟨some 45, _, _, _, _, _⟩) (v := ?_) rfl (by as_aux_lemma => kernel_rfl) (by as_aux_lemma => kernel_rfl) (by as_aux_lemma => kernel_rfl) (fun _ _ _ h => h) ?_ (by assumption) ?_; rotate_left; (focus (refine Or.inl ⟨rfl, ?_⟩; intro w hSw; (try dsimp only at hSw); go_simp; (try with_reducible rfl); done)); (try simp only [Act.put, List.setIfInBounds_toArray, List.set_cons_zero, List.set_cons_succ])
          refine wpAnyH_ready (rs := [6, 11]) (by kernel_rfl) (by simp) ?_
          refine AllReadyH.cons (o := ⟨some 46, _, _, _, _, _⟩) rfl (fun K hK => ?_) (AllReadyH.cons (o := ⟨some 9, _, _, _, _, _⟩) rfl (fun K hK => ?_) AllReadyH.nil)
          · refine Kd.R_append_rows_step (oldK k27 w) (Rr := k27.K w) (w0 := w4) w4.heap.size rfl (.tmp 44) (.tmp 45) 24 27 (.agg #[(.int .i64 0), (.int .i64 0), (.int .u64 0), (.string ⟨#[]⟩), (.slice none 0 0), (.slice none 0 0)]) 88 rfl Tryz.underlying24 info27 rfl (by exact Nat.succ_pos 5) (by decide) (.slice Av acc.length cv) acc before B before.length cb (fun _ => True) (fun _ => False) rfl rfl ?aO ?aR (fun _ _ h => h) (fun _ h => h.elim) (fun _ _ => trivial) ?aB ?aS ?aL ?_
            case aO => exact HOd.out
            case aR => exact ReadsRow.imp_ HBF.out (below_step A3.out HBd.out) (fun _ _ h => h)
            case aB => exact HBd.out
            case aS => exact below_size HBd.out
            case aL => have h1 := HFEW.out; have h2 := HLA.out; have h3 := HBL.out; omega
            intro v1 w1 hr1 hb1 hg1 hat1
            rw [HYS.out] at hr1
            obtain ⟨A1, c1, rfl, l1, C1⟩ := Kd.R_reads hr1
            have HC1 := Lib.hid (old_C C1 (below_step A3.out hb1))
            refine hK.out _ _ (KEEP.out _ hb1) (fun hHeld2 => ?_)
            clear HBd HOd; have HBd := Lib.hid hb1; clear hr1 hb1 hg1 hat1 C1 l1; clear hK K hHeld; have hHeld := hHeld2; clear hHeld2; (try simp only [Act.put, List.setIfInBounds_toArray, List.set_cons_zero, List.set_cons_succ])
            refine wpAnyH_ready (rs := [7, 11]) (by kernel_rfl) (by simp) ?_
            refine AllReadyH.cons (o := ⟨some 47, _, _, _, _, _⟩) rfl (fun K hK => ?_) (AllReadyH.cons (o := ⟨some 9, _, _, _, _, _⟩) rfl (fun K hK => ?_) AllReadyH.nil)
            · go_simp
              go_at_call 17
              (with_reducible refine (CC.out _ A1 c1 (below_step A3.out HBd.out) HC1.out).mono ?_)
              rintro en wm ⟨v4, v5, rfl, hk4, hk5, hb⟩
              obtain ⟨E, e4, rfl⟩ := Kd.R_slice hk4; obtain ⟨Fa, f4, rfl⟩ := Kd.R_slice hk5; have RK := Lib.hid (own_mk hk4 hk5); have HGE := Lib.hid (below_size HBd.out); clear hk4 hk5
              have HBm := Lib.hid (below_step HBd.out hb)
              refine hK.out _ _ (KEEP.out _ HBm.out) (fun hHeld2 => ?_)
              clear HBd HC1 hb; have HBd := Lib.hid HBm.out; clear HBm; clear hK K hHeld; have hHeld := hHeld2; clear hHeld2; (try simp only [Act.put, List.setIfInBounds_toArray, List.set_cons_zero, List.set_cons_succ])
              refine wpAnyH_take (i := 8) (oi := ⟨some 39, _, _, _, _, _⟩) (v := ?_) rfl (by as_aux_lemma => kernel_rfl) (by as_aux_lemma => kernel_rfl) (by as_aux_lemma => kernel_rfl) (fun _ _ _ h => h) ?_ (by assumption) ?_; rotate_left; (focus (refine Or.inl ⟨rfl, ?_⟩; intro w hSw; (try dsimp only at hSw); go_simp; (try with_reducible rfl); done)); (try simp only [Act.put, List.setIfInBounds_toArray, List.set_cons_zero, List.set_cons_succ])
              refine wpAnyH_take (i := 9) (oi := ⟨some 48, _, _, _, _, _⟩) (v := ?_) rfl (by as_aux_lemma => kernel_rfl) (by as_aux_lemma => kernel_rfl) (by as_aux_lemma => kernel_rfl) (fun _ _ _ h => h) ?_ (by assumption) ?_; rotate_left; (focus (refine Or.inl ⟨rfl, ?_⟩; intro w hSw; (try dsimp only at hSw); go_simp; (try with_reducible rfl); done)); (try simp only [Act.put, List.setIfInBounds_toArray, List.set_cons_zero, List.set_cons_succ])
              refine wpAnyH_take (i := 10) (oi := ⟨some 49, _, _, _, _, _⟩) (v := ?_) rfl (by as_aux_lemma => kernel_rfl) (by as_aux_lemma => kernel_rfl) (by as_aux_lemma => kernel_rfl) (fun _ _ _ h => h) ?_ (by assumption) ?_; rotate_left; (focus (refine Or.inl ⟨rfl, ?_⟩; intro w hSw; (try dsimp only at hSw); go_simp; (try with_reducible rfl); done)); (try simp only [Act.put, List.setIfInBounds_toArray, List.set_cons_zero, List.set_cons_succ])
              refine wpAnyH_ready (rs := [11]) (by kernel_rfl) (by simp) ?_
              refine AllReadyH.cons (o := ⟨some 9, _, _, _, _, _⟩) rfl (fun K hK => ?_) AllReadyH.nil
              go_simp
              refine hK.out _ _ (KEEP.out _ (below_alloc HBd.out zeros)) (fun hHeld2 => ?_)
              have BXZ := Lib.hid (blk_new wm zeros)
              clear hK K hHeld; have hHeld := hHeld2; clear hHeld2; (try simp only [Act.put, List.setIfInBounds_toArray, List.set_cons_zero, List.set_cons_succ])
              refine wpAnyH_ready (rs := [12]) (by kernel_rfl) (by simp) ?_
              refine AllReadyH.cons (o := ⟨none, _, _, _, _, _⟩) rfl (fun K hK => ?_) AllReadyH.nil
              have HF := Lib.hid (below_alloc HBd.out (.cells #[.int .i64 X.f0, .int .i64 X.f1, .int .u64 X.f2, .string X.f3, .slice E X.f4.length e4, .slice Fa X.f5.length f4] 27))
              have HX := Lib.hid (blk_new wm (.cells #[.int .i64 X.f0, .int .i64 X.f1, .int .u64 X.f2, .string X.f3, .slice E X.f4.length e4, .slice Fa X.f5.length f4] 27))
              have HRW := Lib.hid ((RK.out.same (same_alloc wm (.cells #[.int .i64 X.f0, .int .i64 X.f1, .int .u64 X.f2, .string X.f3, .slice E X.f4.length e4, .slice Fa X.f5.length f4] 27) _)).lower HGE.out)
              go_simp
              refine hK.out _ _ (KEEP.out _ HF.out) (fun hHeld2 => ?_)
              clear hK K hHeld; have hHeld := hHeld2; clear hHeld2; (try simp only [Act.put, List.setIfInBounds_toArray, List.set_cons_zero, List.set_cons_succ])
              refine wpAnyH_take (i := 13) (oi := ⟨some 10, _, _, _, _, _⟩) (v := ?_) rfl (by as_aux_lemma => kernel_rfl) (by as_aux_lemma => kernel_rfl) (by as_aux_lemma => kernel_rfl) (fun _ _ _ h => h) ?_ (by assumption) ?_; rotate_left; (focus (refine Or.inl ⟨rfl, ?_⟩; intro w hSw; (try dsimp only at hSw); go_simp; (try with_reducible rfl); done)); (try simp only [Act.put, List.setIfInBounds_toArray, List.set_cons_zero, List.set_cons_succ])
              refine wpAnyH_done (by kernel_rfl) ?_ _
              go_wp2
              go_meet
              case rel =>
                exact ⟨_, _, _, _, _, rfl, rfl, ⟨HF.out⟩, ⟨HX.out⟩, ⟨HRW.out⟩⟩
            · go_simp
              refine hK.out _ _ (KEEP.out _ (below_alloc HBd.out zeros)) (fun hHeld2 => ?_)
              have BXZ := Lib.hid (blk_new w1 zeros)
              have HGX := Lib.hid (below_size HBd.out); have HBd' := Lib.hid (below_alloc HBd.out zeros); clear HBd; have HBd := HBd'; clear HBd'
              have HC1' := Lib.hid (Kd.C_below HC1.out (below_alloc (Below.refl w1.heap.size w1) zeros)); clear HC1; have HC1 := HC1'; clear HC1'
              clear hK K hHeld; have hHeld := hHeld2; clear hHeld2; (try simp only [Act.put, List.setIfInBounds_toArray, List.set_cons_zero, List.set_cons_succ])
              generalize hgx : w1.heap.size = gx at *; (try clear hgx)
              generalize hwx : w1.alloc zeros = wx at *; clear hwx
              refine wpAnyH_ready (rs := [7]) (by kernel_rfl) (by simp) ?_
              refine AllReadyH.cons (o := ⟨some 47, _, _, _, _, _⟩) rfl (fun K hK => ?_) AllReadyH.nil
              go_simp
              go_at_call 17
              (with_reducible refine (CC.out _ A1 c1 (below_step A3.out HBd.out) HC1.out).mono ?_)
              rintro en wm ⟨v4, v5, rfl, hk4, hk5, hb⟩
              obtain ⟨E, e4, rfl⟩ := Kd.R_slice hk4; obtain ⟨Fa, f4, rfl⟩ := Kd.R_slice hk5; have RK := Lib.hid (own_mk hk4 hk5); have HGE := Lib.hid (below_size HBd.out); clear hk4 hk5
              have HBm := Lib.hid (below_step HBd.out hb)
              refine hK.out _ _ (KEEP.out _ HBm.out) (fun hHeld2 => ?_)
              have HGL := Lib.hid (blk_lt BXZ.out); have BXZ' := Lib.hid (blk_below BXZ.out hb); clear BXZ; have BXZ := BXZ'; clear BXZ'
              clear HBd HC1 hb; have HBd := Lib.hid HBm.out; clear HBm; clear hK K hHeld; have hHeld := hHeld2; clear hHeld2; (try simp only [Act.put, List.setIfInBounds_toArray, List.set_cons_zero, List.set_cons_succ])
              refine wpAnyH_take (i := 8) (oi := ⟨some 39, _, _, _, _, _⟩) (v := ?_) rfl (by as_aux_lemma => kernel_rfl) (by as_aux_lemma => kernel_rfl) (by as_aux_lemma => kernel_rfl) (fun _ _ _ h => h) ?_ (by assumption) ?_; rotate_left; (focus (refine Or.inl ⟨rfl, ?_⟩; intro w hSw; (try dsimp only at hSw); go_simp; (try with_reducible rfl); done)); (try simp only [Act.put, List.setIfInBounds_toArray, List.set_cons_zero, List.set_cons_succ])
              refine wpAnyH_take (i := 9) (oi := ⟨some 48, _, _, _, _, _⟩) (v := ?_) rfl (by as_aux_lemma => kernel_rfl) (by as_aux_lemma => kernel_rfl) (by as_aux_lemma => kernel_rfl) (fun _ _ _ h => h) ?_ (by assumption) ?_; rotate_left; (focus (refine Or.inl ⟨rfl, ?_⟩; intro w hSw; (try dsimp only at hSw); go_simp; (try with_reducible rfl); done)); (try simp only [Act.put, List.setIfInBounds_toArray, List.set_cons_zero, List.set_cons_succ])
              refine wpAnyH_take (i := 10) (oi := ⟨some 49, _, _, _, _, _⟩) (v := ?_) rfl (by as_aux_lemma => kernel_rfl) (by as_aux_lemma => kernel_rfl) (by as_aux_lemma => kernel_rfl) (fun _ _ _ h => h) ?_ (by assumption) ?_; rotate_left; (focus (refine Or.inl ⟨rfl, ?_⟩; intro w hSw; (try dsimp only at hSw); go_simp; (try with_reducible rfl); done)); (try simp only [Act.put, List.setIfInBounds_toArray, List.set_cons_zero, List.set_cons_succ])
              refine wpAnyH_ready (rs := [12]) (by kernel_rfl) (by simp) ?_
              refine AllReadyH.cons (o := ⟨none, _, _, _, _, _⟩) rfl (fun K hK => ?_) AllReadyH.nil
              have nz0 := (blk_cell BXZ.out 0).trans rfl; have fz0 := blk_frozen BXZ.out 0; have nz1 := (blk_cell BXZ.out 1).trans rfl; have fz1 := blk_frozen BXZ.out 1; have nz2 := (blk_cell BXZ.out 2).trans rfl; have fz2 := blk_frozen BXZ.out 2; have nz3 := (blk_cell BXZ.out 3).trans rfl; have fz3 := blk_frozen BXZ.out 3; have nz4 := (blk_cell BXZ.out 4).trans rfl; have fz4 := blk_frozen BXZ.out 4; have nz5 := (blk_cell BXZ.out 5).trans rfl; have fz5 := blk_frozen BXZ.out 5
              go_simp
              have HF := Lib.hid (six_below HBd.out HGX.out (.int .i64 X.f0) (.int .i64 X.f1) (.int .u64 X.f2) (.string X.f3) (.slice E X.f4.length e4) (.slice Fa X.f5.length f4))
              have HX := Lib.hid (six_put BXZ.out (.int .i64 X.f0) (.int .i64 X.f1) (.int .u64 X.f2) (.string X.f3) (.slice E X.f4.length e4) (.slice Fa X.f5.length f4))
              have HRW := Lib.hid ((RK.out.same (same_six HGL.out (.int .i64 X.f0) (.int .i64 X.f1) (.int .u64 X.f2) (.string X.f3) (.slice E X.f4.length e4) (.slice Fa X.f5.length f4))).lower HGE.out)
              clear nz0 nz1 nz2 nz3 nz4 nz5 fz0 fz1 fz2 fz3 fz4 fz5
              refine hK.out _ _ (KEEP.out _ HF.out) (fun hHeld2 => ?_)
              clear hK K hHeld; have hHeld := hHeld2; clear hHeld2; (try simp only [Act.put, List.setIfInBounds_toArray, List.set_cons_zero, List.set_cons_succ])
              refine wpAnyH_take (i := 13) (oi := ⟨some 10, _, _, _, _, _⟩) (v := ?_) rfl (by as_aux_lemma => kernel_rfl) (by as_aux_lemma => kernel_rfl) (by as_aux_lemma => kernel_rfl) (fun _ _ _ h => h) ?_ (by assumption) ?_; rotate_left; (focus (refine Or.inl ⟨rfl, ?_⟩; intro w hSw; (try dsimp only at hSw); go_simp; (try with_reducible rfl); done)); (try simp only [Act.put, List.setIfInBounds_toArray, List.set_cons_zero, List.set_cons_succ])
              refine wpAnyH_done (by kernel_rfl) ?_ _
              go_wp2
              go_meet
              case rel =>
                exact ⟨_, _, _, _, _, rfl, rfl, ⟨HF.out⟩, ⟨HX.out⟩, ⟨HRW.out⟩⟩
          · go_simp
            refine hK.out _ _ (KEEP.out _ (below_alloc HBd.out zeros)) (fun hHeld2 => ?_)
            have BXZ := Lib.hid (blk_new wd zeros)
            have HGX := Lib.hid (below_size HBd.out); have HBd' := Lib.hid (below_alloc HBd.out zeros); clear HBd; have HBd := HBd'; clear HBd'
            have HNX := Lib.hid (show some wd.heap.size ≠ (Value.slice Av acc.length cv).ownBlock from fun h => Nat.lt_irrefl _ (Kd.R_lt HOd.out _ h.symm)); have HOd' := Lib.hid (Kd.R_alloc HOd.out zeros); clear HOd; have HOd := HOd'; clear HOd'
            clear hK K hHeld; have hHeld := hHeld2; clear hHeld2; (try simp only [Act.put, List.setIfInBounds_toArray, List.set_cons_zero, List.set_cons_succ])
            generalize hgx : wd.heap.size = gx at *; (try clear hgx)
            generalize hwx : wd.alloc zeros = wx at *; clear hwx
            refine wpAnyH_ready (rs := [6]) (by kernel_rfl) (by simp) ?_
            refine AllReadyH.cons (o := ⟨some 46, _, _, _, _, _⟩) rfl (fun K hK => ?_) AllReadyH.nil
            refine Kd.R_append_rows_step (oldK k27 w) (Rr := k27.K w) (w0 := w4) w4.heap.size rfl (.tmp 44) (.tmp 45) 24 27 (.agg #[(.int .i64 0), (.int .i64 0), (.int .u64 0), (.string ⟨#[]⟩), (.slice none 0 0), (.slice none 0 0)]) 88 rfl Tryz.underlying24 info27 rfl (by exact Nat.succ_pos 5) (by decide) (.slice Av acc.length cv) acc before B before.length cb (fun _ => True) (fun _ => False) rfl rfl ?aO ?aR (fun _ _ h => h) (fun _ h => h.elim) (fun _ _ => trivial) ?aB ?aS ?aL ?_
            case aO => exact HOd.out
            case aR => exact ReadsRow.imp_ HBF.out (below_step A3.out HBd.out) (fun _ _ h => h)
            case aB => exact HBd.out
            case aS => exact below_size HBd.out
            case aL => have h1 := HFEW.out; have h2 := HLA.out; have h3 := HBL.out; omega
            intro v1 w1 hr1 hb1 hg1 hat1
            rw [HYS.out] at hr1
            obtain ⟨A1, c1, rfl, l1, C1⟩ := Kd.R_reads hr1
            have HC1 := Lib.hid (old_C C1 (below_step A3.out hb1))
            refine hK.out _ _ (KEEP.out _ hb1) (fun hHeld2 => ?_)
            have BXZ' := Lib.hid ((hg1.block gx (blk_lt BXZ.out) HNX.out).trans BXZ.out); clear BXZ; have BXZ := BXZ'; clear BXZ' HNX
            clear HBd HOd; have HBd := Lib.hid hb1; clear hr1 hb1 hg1 hat1 C1 l1; clear hK K hHeld; have hHeld := hHeld2; clear hHeld2; (try simp only [Act.put, List.setIfInBounds_toArray, List.set_cons_zero, List.set_cons_succ])
            refine wpAnyH_ready (rs := [7]) (by kernel_rfl) (by simp) ?_
            refine AllReadyH.cons (o := ⟨some 47, _, _, _, _, _⟩) rfl (fun K hK => ?_) AllReadyH.nil
            go_simp
            go_at_call 17
            (with_reducible refine (CC.out _ A1 c1 (below_step A3.out HBd.out) HC1.out).mono ?_)
            rintro en wm ⟨v4, v5, rfl, hk4, hk5, hb⟩
            obtain ⟨E, e4, rfl⟩ := Kd.R_slice hk4; obtain ⟨Fa, f4, rfl⟩ := Kd.R_slice hk5; have RK := Lib.hid (own_mk hk4 hk5); have HGE := Lib.hid (below_size HBd.out); clear hk4 hk5
            have HBm := Lib.hid (below_step HBd.out hb)
            refine hK.out _ _ (KEEP.out _ HBm.out) (fun hHeld2 => ?_)
            have HGL := Lib.hid (blk_lt BXZ.out); have BXZ' := Lib.hid (blk_below BXZ.out hb); clear BXZ; have BXZ := BXZ'; clear BXZ'
            clear HBd HC1 hb; have HBd := Lib.hid HBm.out; clear HBm; clear hK K hHeld; have hHeld := hHeld2; clear hHeld2; (try simp only [Act.put, List.setIfInBounds_toArray, List.set_cons_zero, List.set_cons_succ])
            refine wpAnyH_take (i := 8) (oi := ⟨some 39, _, _, _, _, _⟩) (v := ?_) rfl (by as_aux_lemma => kernel_rfl) (by as_aux_lemma => kernel_rfl) (by as_aux_lemma => kernel_rfl) (fun _ _ _ h => h) ?_ (by assumption) ?_; rotate_left; (focus (refine Or.inl ⟨rfl, ?_⟩; intro w hSw; (try dsimp only at hSw); go_simp; (try with_reducible rfl); done)); (try simp only [Act.put, List.setIfInBounds_toArray, List.set_cons_zero, List.set_cons_succ])
            refine wpAnyH_take (i := 9) (oi := ⟨some 48, _, _, _, _, _⟩) (v := ?_) rfl (by as_aux_lemma => kernel_rfl) (by as_aux_lemma => kernel_rfl) (by as_aux_lemma => kernel_rfl) (fun _ _ _ h => h) ?_ (by assumption) ?_; rotate_left; (focus (refine Or.inl ⟨rfl, ?_⟩; intro w hSw; (try dsimp only at hSw); go_simp; (try with_reducible rfl); done)); (try simp only [Act.put, List.setIfInBounds_toArray, List.set_cons_zero, List.set_cons_succ])
            refine wpAnyH_take (i := 10) (oi := ⟨some 49, _, _, _, _, _⟩) (v := ?_) rfl (by as_aux_lemma => kernel_rfl) (by as_aux_lemma => kernel_rfl) (by as_aux_lemma => kernel_rfl) (fun _ _ _ h => h) ?_ (by assumption) ?_; rotate_left; (focus (refine Or.inl ⟨rfl, ?_⟩; intro w hSw; (try dsimp only at hSw); go_simp; (try with_reducible rfl); done)); (try simp only [Act.put, List.setIfInBounds_toArray, List.set_cons_zero, List.set_cons_succ])
            refine wpAnyH_ready (rs := [12]) (by kernel_rfl) (by simp) ?_
            refine AllReadyH.cons (o := ⟨none, _, _, _, _, _⟩) rfl (fun K hK => ?_) AllReadyH.nil
            have nz0 := (blk_cell BXZ.out 0).trans rfl; have fz0 := blk_frozen BXZ.out 0; have nz1 := (blk_cell BXZ.out 1).trans rfl; have fz1 := blk_frozen BXZ.out 1; have nz2 := (blk_cell BXZ.out 2).trans rfl; have fz2 := blk_frozen BXZ.out 2; have nz3 := (blk_cell BXZ.out 3).trans rfl; have fz3 := blk_frozen BXZ.out 3; have nz4 := (blk_cell BXZ.out 4).trans rfl; have fz4 := blk_frozen BXZ.out 4; have nz5 := (blk_cell BXZ.out 5).trans rfl; have fz5 := blk_frozen BXZ.out 5
            go_simp
            have HF := Lib.hid (six_below HBd.out HGX.out (.int .i64 X.f0) (.int .i64 X.f1) (.int .u64 X.f2) (.string X.f3) (.slice E X.f4.length e4) (.slice Fa X.f5.length f4))
            have HX := Lib.hid (six_put BXZ.out (.int .i64 X.f0) (.int .i64 X.f1) (.int .u64 X.f2) (.string X.f3) (.slice E X.f4.length e4) (.slice Fa X.f5.length f4))
            have HRW := Lib.hid ((RK.out.same (same_six HGL.out (.int .i64 X.f0) (.int .i64 X.f1) (.int .u64 X.f2) (.string X.f3) (.slice E X.f4.length e4) (.slice Fa X.f5.length f4))).lower HGE.out)
            clear nz0 nz1 nz2 nz3 nz4 nz5 fz0 fz1 fz2 fz3 fz4 fz5
            refine hK.out _ _ (KEEP.out _ HF.out) (fun hHeld2 => ?_)
            clear hK K hHeld; have hHeld := hHeld2; clear hHeld2; (try simp only [Act.put, List.setIfInBounds_toArray, List.set_cons_zero, List.set_cons_succ])
            refine wpAnyH_take (i := 13) (oi := ⟨some 10, _, _, _, _, _⟩) (v := ?_) rfl (by as_aux_lemma => kernel_rfl) (by as_aux_lemma => kernel_rfl) (by as_aux_lemma => kernel_rfl) (fun _ _ _ h => h) ?_ (by assumption) ?_; rotate_left; (focus (refine Or.inl ⟨rfl, ?_⟩; intro w hSw; (try dsimp only at hSw); go_simp; (try with_reducible rfl); done)); (try simp only [Act.put, List.setIfInBounds_toArray, List.set_cons_zero, List.set_cons_succ])
            refine wpAnyH_done (by kernel_rfl) ?_ _
            go_wp2
            go_meet
            case rel =>
              exact ⟨_, _, _, _, _, rfl, rfl, ⟨HF.out⟩, ⟨HX.out⟩, ⟨HRW.out⟩⟩
        case rest =>
          obtain ⟨gn, E, e4, Fa, f4, rfl, rfl, HF, HX, HOW⟩ := hcut
          have BZ := Lib.hid (blk_below A2.out HF.out)
          obtain ⟨s0, s1, s2, s3, s4, s5⟩ := At.of_box HX.out
          by_cases hN : N = 0
          · subst hN
            have hn1 : ((0 : Int) != 0) = false := rfl
            go_wp2_with (first | ((with_reducible refine gate_store (t := 27) (p := 6) rfl ?_); refine row_event (by rfl) (by rfl) (by rfl) (by rfl) (by rfl) BZ.out (by exact size27) (by rfl) (by first | rfl | simp [Value.oneCell']) ?_; intro w8 hz8 ho8 hb8; have Z8 := Lib.hid hz8; have HO8 := Lib.hid ho8; have HB8 := Lib.hid (hb8 (Nat.le_refl _) (below_step A3.out HF.out)); clear hb8 ho8 hz8))
            refine bodyPost_ret (results_cell_row rfl _ _ w.heap.size 27 _ (0, 0) _ rfl Z8.out hu27 rfl (by exact size27)) rfl ?_
            rw [HRX.out]
            exact endsC_own ((HOW.out.same (fun k hk _ => HO8.out k (by have := S1.out; omega))).lower (Nat.le_of_lt S1.out)) HB8.out
          · have hn1 : (N != 0) = true := bne_iff_ne.2 hN
            have HNN := Lib.hid hN
            clear hN
            go_wp2
            rw [HRX.out]
            exact ⟨rfl, endsC_no HNN.out (below_step A3.out HF.out)⟩
      · have h1 := HONE.out hq
        have hL : acc.length = 1 := by have := HI.out; have := HAC.out; have := HN.out; omega
        have HE2 := Lib.hid (show RR = (rd_T27 acc 0, 0) by rw [← HRR.out]; unfold cmdR; rw [HRS.out, hq]; rfl)
        obtain ⟨_, hl, hC1⟩ := Kd.R_reads' HO.out
        obtain ⟨ad, E4, e4, E5, e5, rfl, hAt0, hRW⟩ := old_elem hC1 0 (by decide) (by rw [hL]; decide)
        have hz : (0 : Int).toNat * 6 = 0 := rfl
        rw [hz, Pipe.addr_zero] at hAt0
        obtain ⟨s0, s1, s2, s3, s4, s5⟩ := hAt0
        have HRW := Lib.hid hRW
        have BZ := Lib.hid (blk_below A2.out HB.out)
        rw [hL]
        have HE3 := Lib.hid HE2.out
        clear h1 HE2 HRR HRS HO HRN HRB HRA HARG HK1 hi hl hC1 hz hRW
        generalize rd_T27 acc 0 = x at *
        go_wp2_with (first | ((with_reducible refine gate_store (t := 27) (p := 6) rfl ?_); refine row_event (by rfl) (by rfl) (by rfl) (by rfl) (by rfl) BZ.out (by exact size27) (by rfl) (by first | rfl | simp [Value.oneCell']) ?_; intro w8 hz8 ho8 hb8; have Z8 := Lib.hid hz8; have HB8 := Lib.hid (hb8 (Nat.le_refl _) (below_step A3.out HB.out)); clear hb8 ho8 hz8))
        refine bodyPost_ret (results_cell_row rfl _ _ w.heap.size 27 _ (0, 0) _ rfl Z8.out hu27 rfl (by exact size27)) rfl ?_
        rw [HE3.out]
        exact endsC_old HRW.out HB8.out
end Go.Proofs.YtdghnfmhcnlppaaGreatDoor.Eval
