/- Package pipe, walked: words as a command. -/
import Derived.Test.YthaapadjlknieaaPipeC
namespace Go.Proofs.Ythaapadjlknieaa.Pipe
open Go.RowKit Go.Proofs.Ythaapadjlknieaa.Q Go.Proofs.YthaapadjlknieaaW.PrintWords Go.Proofs.YthaapadjlknieaaW.PrintLast Go.Proofs.YthaapadjlknieaaW.PrintMore
set_option linter.unusedSimpArgs false
set_option linter.unusedVariables false

abbrev zerosC : Obj := .cells #[.string ⟨#[]⟩, .slice none 0 0] 38
def cmdF (ws : List Wd) (b : Bool) : Cm × Bool := match cmdP ws b with | some c => (c, true) | none => (⟨⟨#[]⟩, []⟩, false)
def contF (fn : ByteArray) (acc : List Ag) (ws : List Wd) : Cm × Bool := match argsP ws with | some m => (⟨fn, acc ++ m⟩, true) | none => (⟨⟨#[]⟩, []⟩, false)
theorem cont_nil (fn : ByteArray) (acc : List Ag) : contF fn acc [] = (⟨fn, acc⟩, true) := by unfold contF argsP; simp
theorem cont_no (fn : ByteArray) (acc : List Ag) (x : Wd) (ws : List Wd) (h : argP x = none) : contF fn acc (x :: ws) = (⟨⟨#[]⟩, []⟩, false) := by unfold contF argsP; rw [h]
theorem cont_yes (fn : ByteArray) (acc : List Ag) (x : Wd) (ws : List Wd) {a : Ag} (h : argP x = some a) : contF fn acc (x :: ws) = contF fn (acc ++ [a]) ws := by
  unfold contF
  conv => lhs; unfold argsP
  rw [h]
  cases argsP ws with
  | none => rfl
  | some m => simp
theorem cmd_no {ws : List Wd} {b : Bool} (h : headF ws = false) (h2 : b = false ∨ ws.length ≠ 1) : cmdF ws b = (⟨⟨#[]⟩, []⟩, false) := by
  unfold cmdF cmdP
  rw [h, if_neg (by decide), if_neg (by rcases h2 with h2 | h2 <;> simp [h2])]
theorem cmd_bare {ws : List Wd} {b : Bool} (h : headF ws = false) (h1 : b = true) (h2 : ws.length = 1) : cmdF ws b = contF ⟨#[]⟩ [] ws := by
  unfold cmdF cmdP contF
  rw [h, if_neg (by decide), if_pos ⟨h1, h2⟩]
  cases argsP ws with
  | none => rfl
  | some m => rfl
theorem cmd_fn {x : Wd} {ws : List Wd} {b : Bool} (h : headF (x :: ws) = true) : cmdF (x :: ws) b = contF x.f1 [] ws := by
  unfold cmdF cmdP contF
  rw [if_pos h]
  show (match (argsP ws).map (fun l => (⟨x.f1, l⟩ : Cm)) with | some c => (c, true) | none => (⟨⟨#[]⟩, []⟩, false)) = _
  cases argsP ws with
  | none => rfl
  | some m => rfl
/-- What cmd answers. -/
def CmdAns (w : World) (c : Cm) (b : Bool) (e : Ending) (w' : World) : Prop := ∃ v1, e = .returned (.tuple #[.agg #[.string c.f0, v1], .bool b]) ∧ kA.R 41 w' w.heap.size (fun _ => True) v1 c.f1 ∧ Below w.heap.size w w'
theorem cmd_nil {w w' : World} {fn : ByteArray} {b : Bool} (hb : Below w.heap.size w w') : CmdAns w ⟨fn, []⟩ b (.returned (.tuple #[.agg #[.string fn, .slice none 0 0], .bool b])) w' :=
  ⟨_, rfl, Kd.R_nil _ _ _ _ _, hb⟩
theorem rd_W (xs : List Wd) (i : Nat) (hi : i < xs.length) : xs.drop i = rd_T45 xs (i : Int) :: xs.drop (i + 1) := by
  rw [List.drop_eq_getElem_cons hi]
  congr 1
  unfold rd_T45
  simp [hi]
theorem AtW.of_elem {w : World} {A : Option Addr} {n : Nat} {xs : List Wd} (h : Kd.C kW w A n xs) (i : Int) (h0 : 0 ≤ i) (h1 : i < n) : ∃ ad A2 c2, A = some ad ∧ AtW w (ad.add (i.toNat * 4)) (rd_T45 xs i) A2 c2 ∧ Kd.C Kd.string w A2 (rd_T45 xs i).f2.length (rd_T45 xs i).f2 := by
  obtain ⟨ad, A2, c2, e, g0, g1, g2, g3, l2, k2⟩ := at_T45 h i h0 h1
  exact ⟨ad, A2, c2, e, ⟨g0, g1, g2, g3⟩, k2⟩
theorem rd_mem (xs : List Wd) (i : Int) (h0 : 0 ≤ i) (h1 : i < xs.length) : rd_T45 xs i ∈ xs := by
  unfold rd_T45
  rw [List.getD_eq_getElem?_getD, List.getElem?_eq_getElem (by omega)]
  exact List.getElem_mem _
theorem R_lt {α : Type} {d : Kd α} {e : Nat} {w : World} {base : Nat} {ok : Nat → Prop} {v : Value} {xs : List α} (h : d.R e w base ok v xs) (k : Nat) (hk : v.ownBlock = some k) : base ≤ k ∧ k < w.heap.size := by
  obtain ⟨inn, ho⟩ := Kd.R_own h
  exact ⟨own_base ho k hk, own_lt ho k hk⟩
theorem R_base {α : Type} {d : Kd α} {e : Nat} {w w' : World} {base : Nat} {v : Value} {xs : List α} (h : d.R e w base (fun _ => True) v xs) (ho : ∀ k, base ≤ k → k < w.heap.size → w'.heap[k]? = w.heap[k]?) : d.R e w' base (fun _ => True) v xs :=
  Kd.R_mono (Kd.R_move (Kd.R_bound h) (fun k hk => ho k hk.2.1 hk.2.2.1)) (fun _ _ => trivial)

theorem addr_zero (a : Addr) : a.add 0 = a := by unfold Addr.add; simp
set_option maxHeartbeats 16000000 in
set_option maxRecDepth 100000 in
theorem cmd_calls (A : Option Addr) (c : Nat) (l : List Wd) (b : Bool) (w : World) (hA : Kd.C kW w A l.length l) (hc : l.length ≤ c) (hl : l.length ≤ 1048576) (hp : ∀ x ∈ l, x.f2.length ≤ 8388608) :
    Calls Try.prog 18 #[.slice A l.length c, .bool b] w (CmdAns w (cmdF l b).1 (cmdF l b).2) := by
  have hu := Try.underlying38
  have HA := Lib.hid hA; have HC := Lib.hid hc; have HL := Lib.hid hl; have HP := Lib.hid hp
  clear hA hc hl hp
  obtain ⟨R, hR⟩ : ∃ R, cmdF l b = R := ⟨_, rfl⟩
  rw [hR]
  go_enter Try.func18, Try.ntmps18
  go_upto_region 1 with (fail)
  have Z1 := Lib.hid (blk_new w zerosC)
  have B1 := Lib.hid (below_alloc (Below.refl _ w) zerosC)
  have S1 := Lib.hid (show w.heap.size < (w.alloc zerosC).heap.size by simp)
  generalize hw1 : w.alloc zerosC = w1 at *
  clear hw1
  go_upto_region 2 with (fail)
  have Z2 := Lib.hid (blk_alloc Z1.out zerosC)
  have O2 := Lib.hid (blk_new w1 zerosC)
  have B2 := Lib.hid (below_alloc B1.out zerosC)
  have S2 := Lib.hid (show w1.heap.size < (w1.alloc zerosC).heap.size by simp)
  obtain ⟨go, hgo⟩ : ∃ go, w1.heap.size = go := ⟨_, rfl⟩
  rw [hgo] at S1 O2 S2
  rw [hgo]
  clear Z1 B1
  generalize hw2 : w1.alloc zerosC = w2 at *
  clear hw2 hgo w1
  have NE := Lib.hid (show w.heap.size ≠ go from Nat.ne_of_lt S1.out)
  have o0 : w2.cell? ⟨go, 0, none⟩ = some (.string ⟨#[]⟩) := (blk_cell O2.out 0).trans rfl
  have fo0 := blk_frozen O2.out 0
  obtain ⟨n, hn⟩ : ∃ n, l.length = n := ⟨_, rfl⟩
  have HN := Lib.hid hn
  rw [hn]
  clear hn
  by_cases h0 : n = 0
  · subst h0
    have hnil : l = [] := List.eq_nil_of_length_eq_zero HN.out
    subst hnil
    rw [cmd_no rfl (.inr (by decide))] at hR
    subst hR
    cases b
    · go_wp2_with (first | ((with_reducible refine gate_store (t := 38) (p := 4) rfl ?_); refine row_event (by rfl) (by rfl) (by rfl) (by rfl) (by rfl) (by first | exact Z2.out | exact blk_drewN Z2.out _) (by exact sizeC) (by rfl) (by first | rfl | simp [Value.oneCell']) ?_; intro w8 hz8 ho8 hb8; have Z8 := Lib.hid hz8; have HO8 := Lib.hid ho8; have HB8 := Lib.hid (hb8 (Nat.le_refl _) (by first | exact B2.out | exact pw_below_drewN B2.out _)); clear hb8 ho8 hz8))
      refine bodyPost_ret (results_cell_row_tmp rfl _ _ w.heap.size 38 _ (0, 0) _ rfl Z8.out hu rfl (by exact sizeC)) rfl ?_
      exact cmd_nil HB8.out
    · go_wp2_with (first | ((with_reducible refine gate_store (t := 38) (p := 4) rfl ?_); refine row_event (by rfl) (by rfl) (by rfl) (by rfl) (by rfl) (by first | exact Z2.out | exact blk_drewN Z2.out _) (by exact sizeC) (by rfl) (by first | rfl | simp [Value.oneCell']) ?_; intro w8 hz8 ho8 hb8; have Z8 := Lib.hid hz8; have HO8 := Lib.hid ho8; have HB8 := Lib.hid (hb8 (Nat.le_refl _) (by first | exact B2.out | exact pw_below_drewN B2.out _)); clear hb8 ho8 hz8))
      refine bodyPost_ret (results_cell_row_tmp rfl _ _ w.heap.size 38 _ (0, 0) _ rfl Z8.out hu rfl (by exact sizeC)) rfl ?_
      exact cmd_nil HB8.out
  obtain ⟨ad, E2, e2, hae, hAt0, hk2⟩ := AtW.of_elem HA.out 0 (by decide) (by rw [HN.out]; omega)
  subst hae
  have hz : (0 : Int).toNat * 4 = 0 := rfl
  rw [hz, addr_zero] at hAt0
  have hd0 := rd_W l 0 (by rw [HN.out]; omega)
  rw [List.drop_zero] at hd0
  have hc0 : ((0 : Nat) : Int) = 0 := rfl
  rw [hc0] at hd0
  have hhead : headF l = ((rd_T45 l 0).f0 == 0 && fnB (rd_T45 l 0).f1) := by
    conv => lhs; rw [hd0]
    rfl
  have hcf : headF l = true → cmdF l b = contF (rd_T45 l 0).f1 [] (l.drop 1) := fun h => by
    have h' := h
    rw [hd0] at h'
    have := cmd_fn (b := b) h'
    rw [← hd0] at this
    exact this
  obtain ⟨a0, a1, a2, a3⟩ := hAt0.below B2.out
  generalize rd_T45 l 0 = x at *
  have CF := Lib.hid (fn_calls x.f1)
  have hlenp : decide ((n : Int) > 0) = true := decide_eq_true (by omega)
  have hlenp' : decide ((0 : Int) < (n : Int)) = true := hlenp
  clear hd0 hAt0 hk2 hz hc0
  by_cases hh : headF l = true
  · rw [hcf hh] at hR
    rw [hhead] at hh
    simp only [Bool.and_eq_true] at hh
    obtain ⟨t0, tf⟩ := hh
    rw [tf] at CF
    clear tf hcf hhead
    by_cases hc1 : c = 1
    · subst hc1
      go_wp2_with (first | (go_at_call 23; refine (CF.out _).mono ?_; rintro e w' ⟨rfl, ⟨nd, rfl⟩⟩))
      have HA1 := Lib.hid (by have h := Kd.C_drop (m := 1) HA.out (by rw [HN.out]; omega) HC.out; rw [if_pos rfl, List.length_drop, HN.out] at h; exact h : Kd.C kW w (some ad) (n - 1) (l.drop 1))
      have HLN := Lib.hid (by rw [List.length_drop, HN.out] : (l.drop 1).length = n - 1)
      have HP1 := Lib.hid (fun y hy => HP.out y (List.mem_of_mem_drop hy) : ∀ y ∈ l.drop 1, y.f2.length ≤ 8388608)
      have HL1 := Lib.hid (by have := HL.out; have := HN.out; omega : n - 1 ≤ 1048576)
      have ZS := Lib.hid (show ((w2.drewN nd).setCell ⟨go, 0, none⟩ (.string x.f1)).heap[w.heap.size]? = some zerosC from blk_far (blk_drewN Z2.out nd) NE.out _)
      have OS := Lib.hid (show ((w2.drewN nd).setCell ⟨go, 0, none⟩ (.string x.f1)).heap[go]? = some (.cells #[.string x.f1, .slice none 0 0] 38 (0, 0)) from blk_put (blk_drewN O2.out nd) 0 _ rfl)
      have BS := Lib.hid (show Below w.heap.size w ((w2.drewN nd).setCell ⟨go, 0, none⟩ (.string x.f1)) from below_set (pw_below_drewN B2.out nd) (by have := S1.out; omega))
      have SS := Lib.hid (show w2.heap.size ≤ ((w2.drewN nd).setCell ⟨go, 0, none⟩ (.string x.f1)).heap.size by simp)
      generalize n - 1 = n1 at *
      generalize l.drop 1 = l1 at *
      generalize x.f1 = fn at *
      clear HA HL HP HC a0 a1 a2 a3 o0 fo0 CF
      go_loopg [44] n1 (fun kq v44 wr => ∃ (i : Nat) (acc : List Ag) (u : Value), v44 = .int .i64 (i : Int) ∧ Aside0 (i + kq = n1) ∧ Aside0 (acc.length = i) ∧ Aside0 (contF fn acc (l1.drop i) = R) ∧ Aside0 (kA.R 41 wr w2.heap.size (fun _ => True) u acc) ∧ Aside0 (wr.heap[w.heap.size]? = some zerosC) ∧ Aside0 (wr.heap[go]? = some (.cells #[.string fn, u] 38 (0, 0))) ∧ Aside0 (Below w.heap.size w wr) ∧ Aside0 (w2.heap.size ≤ wr.heap.size))
      case atStart => exact ⟨0, [], .slice none 0 0, rfl, ⟨by omega⟩, ⟨rfl⟩, ⟨hR⟩, ⟨Kd.R_nil _ _ _ _ _⟩, ⟨ZS.out⟩, ⟨OS.out⟩, ⟨BS.out⟩, ⟨SS.out⟩⟩
      case round =>
        clear hR ZS OS BS SS
        obtain ⟨i, acc, u, rfl, HI, HAC, HR, HO, BZ, BO, HB, HS⟩ := hrel
        have hi := HI.out
        obtain ⟨Au, cu, rfl⟩ := Kd.R_slice HO.out
        cases gk with
        | zero =>
          have hlt : decide (i < n1) = false := decide_eq_false (by omega)
          have hr := HR.out
          rw [List.drop_of_length_le (by rw [HLN.out]; omega), cont_nil] at hr
          subst hr
          have q0 : wr.cell? ⟨go, 0, none⟩ = some (.string fn) := (blk_cell BO.out 0).trans rfl
          have q1 : wr.cell? ⟨go, 1, none⟩ = some (.slice Au acc.length cu) := (blk_cell BO.out 1).trans rfl
          clear hi
          go_wp2_with (first | ((with_reducible refine gate_store (t := 38) (p := 4) rfl ?_); refine row_event (by rfl) (by rfl) (by rfl) (by rfl) (by rfl) (by first | exact BZ.out | exact blk_drewN BZ.out _) (by exact sizeC) (by rfl) (by first | rfl | simp [Value.oneCell']) ?_; intro w8 hz8 ho8 hb8; have Z8 := Lib.hid hz8; have HO8 := Lib.hid ho8; have HB8 := Lib.hid (hb8 (Nat.le_refl _) (by first | exact HB.out | exact pw_below_drewN HB.out _)); clear hb8 ho8 hz8))
          refine bodyPost_ret (results_cell_row_tmp rfl _ _ w.heap.size 38 _ (0, 0) _ rfl Z8.out hu rfl (by exact sizeC)) rfl ?_
          exact ⟨_, rfl, Kd.R_lower (R_base HO.out (fun k hk _ => HO8.out k (by have := S1.out; have := S2.out; omega))) (below_size B2.out), HB8.out⟩
        | succ k2 =>
          have hlt : decide (i < n1) = true := decide_eq_true (by omega)
          have hltn := eq_true (show i < n1 by omega)
          have hlt' : (i : Int) < (n1 : Int) := by omega
          have hi0 : (0 : Int) ≤ (i : Int) := by omega
          obtain ⟨ad', E2, e2, hade, hAt, hk2⟩ := AtW.of_elem HA1.out (i : Int) hi0 hlt'
          have hade' := Option.some.inj hade
          subst hade'
          clear hade
          have q0 := eq_true hi0
          have q1 := eq_true hlt'
          have wi' : IntKind.i64.wrap ((i : Int) + 1) = (i : Int) + 1 := by rw [i64_w]; exact wrap_small _ (by have := HL1.out; omega) (by have := HL1.out; omega)
          have hstep := rd_W l1 i (by rw [HLN.out]; omega)
          have hm := HP1.out _ (rd_mem l1 (i : Int) hi0 (by rw [HLN.out]; exact hlt'))
          have hr := HR.out
          rw [hstep] at hr
          have ti : (i : Int).toNat = i := by omega
          rw [ti] at hAt
          generalize rd_T45 l1 (i : Int) = x at *
          have CA := Lib.hid (arg_calls _ x E2 e2 wr (hAt.below HB.out) (Kd.C_below hk2 HB.out) hm)
          clear hAt hk2 hm hstep HR hi
          cases ha : argP x with
          | none =>
            rw [cont_no _ _ _ _ ha] at hr
            subst hr
            have e1 : argF x = (⟨0, ⟨#[]⟩, [], 0, ⟨#[]⟩⟩, false) := by unfold argF; rw [ha]
            rw [e1] at CA
            clear ha e1
            have CA' := Lib.hid CA.out
            clear CA
            go_wp2_with (first | (go_at_call 32; refine CA'.out.mono ?_; rintro e w5 ⟨v2, rfl, hr5, hb5⟩; obtain ⟨B, cb, rfl⟩ := Kd.R_slice hr5; have BZ5 := Lib.hid (blk_alloc (blk_below BZ.out hb5) zerosA); have HB5 := Lib.hid (below_alloc (below_step HB.out hb5) zerosA); have BN := Lib.hid (blk_new w5 zerosA); have NL := Lib.hid (Nat.ne_of_lt (blk_lt (blk_below BZ.out hb5))); have LE := Lib.hid (below_size (below_step HB.out hb5)); clear hr5 hb5) | ((with_reducible refine gate_store (t := 41) (p := 8) rfl ?_); refine row_event (by rfl) (by rfl) (by rfl) (by rfl) (by rfl) BN.out (by exact sizeA) (by rfl) (by first | rfl | simp [Value.oneCell']) ?_; intro w6 hz6 ho6 hb6; have BZ6 := Lib.hid ((ho6 _ NL.out).trans BZ5.out); have HB6 := Lib.hid (hb6 LE.out HB5.out); clear hb6 ho6 hz6) | ((with_reducible refine gate_store (t := 38) (p := 4) rfl ?_); refine row_event (by rfl) (by rfl) (by rfl) (by rfl) (by rfl) (by first | exact BZ6.out | exact blk_drewN BZ6.out _) (by exact sizeC) (by rfl) (by first | rfl | simp [Value.oneCell']) ?_; intro w8 hz8 ho8 hb8; have Z8 := Lib.hid hz8; have HO8 := Lib.hid ho8; have HB8 := Lib.hid (hb8 (Nat.le_refl _) (by first | exact HB6.out | exact pw_below_drewN HB6.out _)); clear hb8 ho8 hz8))
            refine bodyPost_ret (results_cell_row_tmp rfl _ _ w.heap.size 38 _ (0, 0) _ rfl Z8.out hu rfl (by exact sizeC)) rfl ?_
            exact cmd_nil HB8.out
          | some a =>
            rw [cont_yes _ _ _ _ ha] at hr
            have e1 : argF x = (a, true) := by unfold argF; rw [ha]
            rw [e1] at CA
            clear ha e1
            have HR2 := Aside0.mk hr
            have CA' := Lib.hid CA.out
            clear hr CA
            go_wp2_with (first | (go_at_call 32; refine CA'.out.mono ?_; rintro e w5 ⟨v2, rfl, hr5, hb5⟩; obtain ⟨B, cb, rfl⟩ := Kd.R_slice hr5; have BZ5 := Lib.hid (blk_alloc (blk_below BZ.out hb5) zerosA); have BO5 := Lib.hid (blk_alloc (blk_below BO.out hb5) zerosA); have HB5 := Lib.hid (below_alloc (below_step HB.out hb5) zerosA); have BN := Lib.hid (blk_new w5 zerosA); have NL := Lib.hid (Nat.ne_of_lt (blk_lt (blk_below BZ.out hb5))); have NLo := Lib.hid (Nat.ne_of_lt (blk_lt (blk_below BO.out hb5))); have LE := Lib.hid (below_size (below_step HB.out hb5)); have HW5 := Lib.hid (below_size hb5); have HR5 := Lib.hid hr5; have HO5 := Lib.hid (Kd.R_below HO.out hb5); clear hr5 hb5) | ((with_reducible refine gate_store (t := 41) (p := 8) rfl ?_); refine row_event (by rfl) (by rfl) (by rfl) (by rfl) (by rfl) BN.out (by exact sizeA) (by rfl) (by first | rfl | simp [Value.oneCell']) ?_; intro w6 hz6 ho6 hb6; have Z6 := Lib.hid hz6; have OTH := Lib.hid ho6; have BZ6 := Lib.hid ((ho6 _ NL.out).trans BZ5.out); have BO6 := Lib.hid ((ho6 _ NLo.out).trans BO5.out); have HB6 := Lib.hid (hb6 LE.out HB5.out); have HB56 := Lib.hid (hb6 (Nat.le_refl _) (below_alloc (Below.refl w5.heap.size w5) zerosA)); have c0 := (blk_cell Z6.out 0).trans rfl; have c1 := (blk_cell Z6.out 1).trans rfl; have c2 := (blk_cell Z6.out 2).trans rfl; have c3 := (blk_cell Z6.out 3).trans rfl; have c4 := (blk_cell Z6.out 4).trans rfl; have p1 : w6.cell? ⟨go, 1, none⟩ = some (.slice Au acc.length cu) := (blk_cell BO6.out 1).trans rfl; clear hb6 ho6 hz6) | ((with_reducible refine gate_builtin (b := .append) (xs := #[.tmp 58, .tmp 60]) rfl ?_); at_builtin; refine Kd.R_append kA (w0 := w6) w2.heap.size rfl (.tmp 58) (.tmp 60) 36 41 (.agg #[(.int .i64 0), (.string ⟨#[]⟩), (.slice none 0 0), (.int .i64 0), (.string ⟨#[]⟩)]) 72 rfl Try.underlying36 info41 rfl (by decide) (by omega) (.slice Au acc.length cu) acc a [.int .i64 a.f0, .string a.f1, .slice B a.f2.length cb, .int .i64 a.f3, .string a.f4] (fun _ => True) (fun k => wr.heap.size ≤ k) rfl rfl ?aP ?aK (fun _ _ => trivial) ?aO (Below.refl _ _) ?aS ?aL ?_; (case aP => exact k41_mkM _ _ _ a (Kd.R_mono (Kd.R_below (Kd.R_lower (Kd.R_bound HR5.out) HS.out) HB56.out) (fun k hk => hk.2.1))); (case aK => exact (fun k hk => ⟨trivial, fun he => by have := (R_lt HO.out k he.symm).2; omega⟩)); (case aO => exact (Kd.R_below HO5.out HB56.out)); (case aS => exact (Nat.le_trans HS.out (Nat.le_trans HW5.out (below_size HB56.out)))); (case aL => have h1 := HAC.out; have h2 := HL1.out; omega); intro v9 w9 hr9 hb9 hg9 hat9; obtain ⟨A9, c9, rfl⟩ := Kd.R_slice hr9; have hla : (acc ++ [a]).length = acc.length + 1 := (by simp); rw [hla] at hr9; clear hla; have HR9 := Lib.hid hr9; have HB9 := Lib.hid (HB6.out.trans (hb9.mono (by have := S1.out; have := S2.out; omega))); have SZ9 := Lib.hid (Nat.le_trans HS.out (Nat.le_trans HW5.out (Nat.le_trans (below_size HB56.out) hb9.size))); have BZ9 := Lib.hid ((hg9.block _ (blk_lt BZ6.out) (fun he => by have h1 := (R_lt HO.out _ he.symm).1; have h2 := S1.out; have h3 := S2.out; omega)).trans BZ6.out); have BO9 := Lib.hid ((hg9.block _ (blk_lt BO6.out) (fun he => by have h1 := (R_lt HO.out _ he.symm).1; have h3 := S2.out; omega)).trans BO6.out); have r1 : w9.cell? ⟨go, 1, none⟩ = some (.slice Au acc.length cu) := (blk_cell BO9.out 1).trans rfl; have fr1 := blk_frozen BO9.out 1; clear hr9 hb9 hg9 hat9))
            go_roundg k2
            case measure => omega
            case rel => exact ⟨i + 1, acc ++ [a], .slice A9 (acc.length + 1) c9, by simp, ⟨by have := HI.out; omega⟩, ⟨by rw [List.length_append, HAC.out]; rfl⟩, HR2, ⟨R_base HR9.out (fun k hk _ => Below.heap_setCell _ _ _ k (by have := S2.out; show k ≠ go; omega))⟩, ⟨blk_far BZ9.out NE.out _⟩, ⟨blk_put BO9.out 1 _ rfl⟩, ⟨below_set HB9.out (by have := S1.out; omega)⟩, ⟨by simpa using SZ9.out⟩⟩
    · go_wp2_with (first | (go_at_call 23; refine (CF.out _).mono ?_; rintro e w' ⟨rfl, ⟨nd, rfl⟩⟩))
      have HA1 := Lib.hid (by have h := Kd.C_drop (m := 1) HA.out (by rw [HN.out]; omega) HC.out; rw [if_neg hc1, List.length_drop, HN.out] at h; exact h : Kd.C kW w (some ⟨ad.block, ad.off + 4, none⟩) (n - 1) (l.drop 1))
      generalize (⟨ad.block, ad.off + 4, none⟩ : Addr) = ad1 at *
      have HLN := Lib.hid (by rw [List.length_drop, HN.out] : (l.drop 1).length = n - 1)
      have HP1 := Lib.hid (fun y hy => HP.out y (List.mem_of_mem_drop hy) : ∀ y ∈ l.drop 1, y.f2.length ≤ 8388608)
      have HL1 := Lib.hid (by have := HL.out; have := HN.out; omega : n - 1 ≤ 1048576)
      have ZS := Lib.hid (show ((w2.drewN nd).setCell ⟨go, 0, none⟩ (.string x.f1)).heap[w.heap.size]? = some zerosC from blk_far (blk_drewN Z2.out nd) NE.out _)
      have OS := Lib.hid (show ((w2.drewN nd).setCell ⟨go, 0, none⟩ (.string x.f1)).heap[go]? = some (.cells #[.string x.f1, .slice none 0 0] 38 (0, 0)) from blk_put (blk_drewN O2.out nd) 0 _ rfl)
      have BS := Lib.hid (show Below w.heap.size w ((w2.drewN nd).setCell ⟨go, 0, none⟩ (.string x.f1)) from below_set (pw_below_drewN B2.out nd) (by have := S1.out; omega))
      have SS := Lib.hid (show w2.heap.size ≤ ((w2.drewN nd).setCell ⟨go, 0, none⟩ (.string x.f1)).heap.size by simp)
      generalize n - 1 = n1 at *
      generalize l.drop 1 = l1 at *
      generalize x.f1 = fn at *
      clear HA HL HP HC a0 a1 a2 a3 o0 fo0 CF
      go_loopg [44] n1 (fun kq v44 wr => ∃ (i : Nat) (acc : List Ag) (u : Value), v44 = .int .i64 (i : Int) ∧ Aside0 (i + kq = n1) ∧ Aside0 (acc.length = i) ∧ Aside0 (contF fn acc (l1.drop i) = R) ∧ Aside0 (kA.R 41 wr w2.heap.size (fun _ => True) u acc) ∧ Aside0 (wr.heap[w.heap.size]? = some zerosC) ∧ Aside0 (wr.heap[go]? = some (.cells #[.string fn, u] 38 (0, 0))) ∧ Aside0 (Below w.heap.size w wr) ∧ Aside0 (w2.heap.size ≤ wr.heap.size))
      case atStart => exact ⟨0, [], .slice none 0 0, rfl, ⟨by omega⟩, ⟨rfl⟩, ⟨hR⟩, ⟨Kd.R_nil _ _ _ _ _⟩, ⟨ZS.out⟩, ⟨OS.out⟩, ⟨BS.out⟩, ⟨SS.out⟩⟩
      case round =>
        clear hR ZS OS BS SS
        obtain ⟨i, acc, u, rfl, HI, HAC, HR, HO, BZ, BO, HB, HS⟩ := hrel
        have hi := HI.out
        obtain ⟨Au, cu, rfl⟩ := Kd.R_slice HO.out
        cases gk with
        | zero =>
          have hlt : decide (i < n1) = false := decide_eq_false (by omega)
          have hr := HR.out
          rw [List.drop_of_length_le (by rw [HLN.out]; omega), cont_nil] at hr
          subst hr
          have q0 : wr.cell? ⟨go, 0, none⟩ = some (.string fn) := (blk_cell BO.out 0).trans rfl
          have q1 : wr.cell? ⟨go, 1, none⟩ = some (.slice Au acc.length cu) := (blk_cell BO.out 1).trans rfl
          clear hi
          go_wp2_with (first | ((with_reducible refine gate_store (t := 38) (p := 4) rfl ?_); refine row_event (by rfl) (by rfl) (by rfl) (by rfl) (by rfl) (by first | exact BZ.out | exact blk_drewN BZ.out _) (by exact sizeC) (by rfl) (by first | rfl | simp [Value.oneCell']) ?_; intro w8 hz8 ho8 hb8; have Z8 := Lib.hid hz8; have HO8 := Lib.hid ho8; have HB8 := Lib.hid (hb8 (Nat.le_refl _) (by first | exact HB.out | exact pw_below_drewN HB.out _)); clear hb8 ho8 hz8))
          refine bodyPost_ret (results_cell_row_tmp rfl _ _ w.heap.size 38 _ (0, 0) _ rfl Z8.out hu rfl (by exact sizeC)) rfl ?_
          exact ⟨_, rfl, Kd.R_lower (R_base HO.out (fun k hk _ => HO8.out k (by have := S1.out; have := S2.out; omega))) (below_size B2.out), HB8.out⟩
        | succ k2 =>
          have hlt : decide (i < n1) = true := decide_eq_true (by omega)
          have hltn := eq_true (show i < n1 by omega)
          have hlt' : (i : Int) < (n1 : Int) := by omega
          have hi0 : (0 : Int) ≤ (i : Int) := by omega
          obtain ⟨ad', E2, e2, hade, hAt, hk2⟩ := AtW.of_elem HA1.out (i : Int) hi0 hlt'
          have hade' := Option.some.inj hade
          subst hade'
          clear hade
          have q0 := eq_true hi0
          have q1 := eq_true hlt'
          have wi' : IntKind.i64.wrap ((i : Int) + 1) = (i : Int) + 1 := by rw [i64_w]; exact wrap_small _ (by have := HL1.out; omega) (by have := HL1.out; omega)
          have hstep := rd_W l1 i (by rw [HLN.out]; omega)
          have hm := HP1.out _ (rd_mem l1 (i : Int) hi0 (by rw [HLN.out]; exact hlt'))
          have hr := HR.out
          rw [hstep] at hr
          have ti : (i : Int).toNat = i := by omega
          rw [ti] at hAt
          generalize rd_T45 l1 (i : Int) = x at *
          have CA := Lib.hid (arg_calls _ x E2 e2 wr (hAt.below HB.out) (Kd.C_below hk2 HB.out) hm)
          clear hAt hk2 hm hstep HR hi
          cases ha : argP x with
          | none =>
            rw [cont_no _ _ _ _ ha] at hr
            subst hr
            have e1 : argF x = (⟨0, ⟨#[]⟩, [], 0, ⟨#[]⟩⟩, false) := by unfold argF; rw [ha]
            rw [e1] at CA
            clear ha e1
            have CA' := Lib.hid CA.out
            clear CA
            go_wp2_with (first | (go_at_call 32; refine CA'.out.mono ?_; rintro e w5 ⟨v2, rfl, hr5, hb5⟩; obtain ⟨B, cb, rfl⟩ := Kd.R_slice hr5; have BZ5 := Lib.hid (blk_alloc (blk_below BZ.out hb5) zerosA); have HB5 := Lib.hid (below_alloc (below_step HB.out hb5) zerosA); have BN := Lib.hid (blk_new w5 zerosA); have NL := Lib.hid (Nat.ne_of_lt (blk_lt (blk_below BZ.out hb5))); have LE := Lib.hid (below_size (below_step HB.out hb5)); clear hr5 hb5) | ((with_reducible refine gate_store (t := 41) (p := 8) rfl ?_); refine row_event (by rfl) (by rfl) (by rfl) (by rfl) (by rfl) BN.out (by exact sizeA) (by rfl) (by first | rfl | simp [Value.oneCell']) ?_; intro w6 hz6 ho6 hb6; have BZ6 := Lib.hid ((ho6 _ NL.out).trans BZ5.out); have HB6 := Lib.hid (hb6 LE.out HB5.out); clear hb6 ho6 hz6) | ((with_reducible refine gate_store (t := 38) (p := 4) rfl ?_); refine row_event (by rfl) (by rfl) (by rfl) (by rfl) (by rfl) (by first | exact BZ6.out | exact blk_drewN BZ6.out _) (by exact sizeC) (by rfl) (by first | rfl | simp [Value.oneCell']) ?_; intro w8 hz8 ho8 hb8; have Z8 := Lib.hid hz8; have HO8 := Lib.hid ho8; have HB8 := Lib.hid (hb8 (Nat.le_refl _) (by first | exact HB6.out | exact pw_below_drewN HB6.out _)); clear hb8 ho8 hz8))
            refine bodyPost_ret (results_cell_row_tmp rfl _ _ w.heap.size 38 _ (0, 0) _ rfl Z8.out hu rfl (by exact sizeC)) rfl ?_
            exact cmd_nil HB8.out
          | some a =>
            rw [cont_yes _ _ _ _ ha] at hr
            have e1 : argF x = (a, true) := by unfold argF; rw [ha]
            rw [e1] at CA
            clear ha e1
            have HR2 := Aside0.mk hr
            have CA' := Lib.hid CA.out
            clear hr CA
            go_wp2_with (first | (go_at_call 32; refine CA'.out.mono ?_; rintro e w5 ⟨v2, rfl, hr5, hb5⟩; obtain ⟨B, cb, rfl⟩ := Kd.R_slice hr5; have BZ5 := Lib.hid (blk_alloc (blk_below BZ.out hb5) zerosA); have BO5 := Lib.hid (blk_alloc (blk_below BO.out hb5) zerosA); have HB5 := Lib.hid (below_alloc (below_step HB.out hb5) zerosA); have BN := Lib.hid (blk_new w5 zerosA); have NL := Lib.hid (Nat.ne_of_lt (blk_lt (blk_below BZ.out hb5))); have NLo := Lib.hid (Nat.ne_of_lt (blk_lt (blk_below BO.out hb5))); have LE := Lib.hid (below_size (below_step HB.out hb5)); have HW5 := Lib.hid (below_size hb5); have HR5 := Lib.hid hr5; have HO5 := Lib.hid (Kd.R_below HO.out hb5); clear hr5 hb5) | ((with_reducible refine gate_store (t := 41) (p := 8) rfl ?_); refine row_event (by rfl) (by rfl) (by rfl) (by rfl) (by rfl) BN.out (by exact sizeA) (by rfl) (by first | rfl | simp [Value.oneCell']) ?_; intro w6 hz6 ho6 hb6; have Z6 := Lib.hid hz6; have OTH := Lib.hid ho6; have BZ6 := Lib.hid ((ho6 _ NL.out).trans BZ5.out); have BO6 := Lib.hid ((ho6 _ NLo.out).trans BO5.out); have HB6 := Lib.hid (hb6 LE.out HB5.out); have HB56 := Lib.hid (hb6 (Nat.le_refl _) (below_alloc (Below.refl w5.heap.size w5) zerosA)); have c0 := (blk_cell Z6.out 0).trans rfl; have c1 := (blk_cell Z6.out 1).trans rfl; have c2 := (blk_cell Z6.out 2).trans rfl; have c3 := (blk_cell Z6.out 3).trans rfl; have c4 := (blk_cell Z6.out 4).trans rfl; have p1 : w6.cell? ⟨go, 1, none⟩ = some (.slice Au acc.length cu) := (blk_cell BO6.out 1).trans rfl; clear hb6 ho6 hz6) | ((with_reducible refine gate_builtin (b := .append) (xs := #[.tmp 58, .tmp 60]) rfl ?_); at_builtin; refine Kd.R_append kA (w0 := w6) w2.heap.size rfl (.tmp 58) (.tmp 60) 36 41 (.agg #[(.int .i64 0), (.string ⟨#[]⟩), (.slice none 0 0), (.int .i64 0), (.string ⟨#[]⟩)]) 72 rfl Try.underlying36 info41 rfl (by decide) (by omega) (.slice Au acc.length cu) acc a [.int .i64 a.f0, .string a.f1, .slice B a.f2.length cb, .int .i64 a.f3, .string a.f4] (fun _ => True) (fun k => wr.heap.size ≤ k) rfl rfl ?aP ?aK (fun _ _ => trivial) ?aO (Below.refl _ _) ?aS ?aL ?_; (case aP => exact k41_mkM _ _ _ a (Kd.R_mono (Kd.R_below (Kd.R_lower (Kd.R_bound HR5.out) HS.out) HB56.out) (fun k hk => hk.2.1))); (case aK => exact (fun k hk => ⟨trivial, fun he => by have := (R_lt HO.out k he.symm).2; omega⟩)); (case aO => exact (Kd.R_below HO5.out HB56.out)); (case aS => exact (Nat.le_trans HS.out (Nat.le_trans HW5.out (below_size HB56.out)))); (case aL => have h1 := HAC.out; have h2 := HL1.out; omega); intro v9 w9 hr9 hb9 hg9 hat9; obtain ⟨A9, c9, rfl⟩ := Kd.R_slice hr9; have hla : (acc ++ [a]).length = acc.length + 1 := (by simp); rw [hla] at hr9; clear hla; have HR9 := Lib.hid hr9; have HB9 := Lib.hid (HB6.out.trans (hb9.mono (by have := S1.out; have := S2.out; omega))); have SZ9 := Lib.hid (Nat.le_trans HS.out (Nat.le_trans HW5.out (Nat.le_trans (below_size HB56.out) hb9.size))); have BZ9 := Lib.hid ((hg9.block _ (blk_lt BZ6.out) (fun he => by have h1 := (R_lt HO.out _ he.symm).1; have h2 := S1.out; have h3 := S2.out; omega)).trans BZ6.out); have BO9 := Lib.hid ((hg9.block _ (blk_lt BO6.out) (fun he => by have h1 := (R_lt HO.out _ he.symm).1; have h3 := S2.out; omega)).trans BO6.out); have r1 : w9.cell? ⟨go, 1, none⟩ = some (.slice Au acc.length cu) := (blk_cell BO9.out 1).trans rfl; have fr1 := blk_frozen BO9.out 1; clear hr9 hb9 hg9 hat9))
            go_roundg k2
            case measure => omega
            case rel => exact ⟨i + 1, acc ++ [a], .slice A9 (acc.length + 1) c9, by simp, ⟨by have := HI.out; omega⟩, ⟨by rw [List.length_append, HAC.out]; rfl⟩, HR2, ⟨R_base HR9.out (fun k hk _ => Below.heap_setCell _ _ _ k (by have := S2.out; show k ≠ go; omega))⟩, ⟨blk_far BZ9.out NE.out _⟩, ⟨blk_put BO9.out 1 _ rfl⟩, ⟨below_set HB9.out (by have := S1.out; omega)⟩, ⟨by simpa using SZ9.out⟩⟩
  · have hh' : headF l = false := by simpa using hh
    rw [hhead] at hh'
    have hno : b = false ∨ l.length ≠ 1 → cmdF l b = (⟨⟨#[]⟩, []⟩, false) := fun h => cmd_no (by rw [hhead]; exact hh') h
    have hbare : b = true → l.length = 1 → cmdF l b = contF ⟨#[]⟩ [] l := fun h1 h2 => cmd_bare (by rw [hhead]; exact hh') h1 h2
    clear hhead hcf
    have hcase : ((x.f0 == 0) = true ∧ fnB x.f1 = false) ∨ (x.f0 == 0) = false := by
      cases h1 : (x.f0 == 0)
      · exact .inr rfl
      · rw [h1] at hh'; exact .inl ⟨rfl, by simpa using hh'⟩
    clear hh hh'
    rcases hcase with ⟨t0, tf⟩ | t0
    · rw [tf] at CF
      clear tf
      cases b
      · rw [hno (.inl rfl)] at hR
        subst hR
        clear hno hbare
        go_wp2_with (first | (go_at_call 23; refine (CF.out _).mono ?_; rintro e w' ⟨rfl, ⟨nd, rfl⟩⟩) | ((with_reducible refine gate_store (t := 38) (p := 4) rfl ?_); refine row_event (by rfl) (by rfl) (by rfl) (by rfl) (by rfl) (by first | exact Z2.out | exact blk_drewN Z2.out _) (by exact sizeC) (by rfl) (by first | rfl | simp [Value.oneCell']) ?_; intro w8 hz8 ho8 hb8; have Z8 := Lib.hid hz8; have HO8 := Lib.hid ho8; have HB8 := Lib.hid (hb8 (Nat.le_refl _) (by first | exact B2.out | exact pw_below_drewN B2.out _)); clear hb8 ho8 hz8))
        refine bodyPost_ret (results_cell_row_tmp rfl _ _ w.heap.size 38 _ (0, 0) _ rfl Z8.out hu rfl (by exact sizeC)) rfl ?_
        exact cmd_nil HB8.out
      by_cases hn1 : n = 1
      · rw [hbare rfl (by rw [HN.out]; exact hn1)] at hR
        clear hno hbare
        have hn1' : ((n : Int) != 1) = false := bne_eq_false_iff_eq.2 (by omega)
        clear hn1
        go_wp2_with (first | (go_at_call 23; refine (CF.out _).mono ?_; rintro e w' ⟨rfl, ⟨nd, rfl⟩⟩))
        have HL1 := Lib.hid (by have := HL.out; have := HN.out; omega : n ≤ 1048576)
        have HAn := Lib.hid (by have h := HA.out; rw [HN.out] at h; exact h : Kd.C kW w (some ad) n l)
        have ZS := Lib.hid (show (w2.drewN nd).heap[w.heap.size]? = some zerosC from (blk_drewN Z2.out nd))
        have OS := Lib.hid (show (w2.drewN nd).heap[go]? = some (.cells #[.string ⟨#[]⟩, .slice none 0 0] 38 (0, 0)) from (blk_drewN O2.out nd))
        have BS := Lib.hid (show Below w.heap.size w (w2.drewN nd) from (pw_below_drewN B2.out nd))
        have SS := Lib.hid (show w2.heap.size ≤ (w2.drewN nd).heap.size by simp)
        clear HL HC a0 a1 a2 a3 o0 fo0 hn1' hlenp hlenp' CF
        go_loopg [44] n (fun kq v44 wr => ∃ (i : Nat) (acc : List Ag) (u : Value), v44 = .int .i64 (i : Int) ∧ Aside0 (i + kq = n) ∧ Aside0 (acc.length = i) ∧ Aside0 (contF (⟨#[]⟩ : ByteArray) acc (l.drop i) = R) ∧ Aside0 (kA.R 41 wr w2.heap.size (fun _ => True) u acc) ∧ Aside0 (wr.heap[w.heap.size]? = some zerosC) ∧ Aside0 (wr.heap[go]? = some (.cells #[.string (⟨#[]⟩ : ByteArray), u] 38 (0, 0))) ∧ Aside0 (Below w.heap.size w wr) ∧ Aside0 (w2.heap.size ≤ wr.heap.size))
        case atStart => exact ⟨0, [], .slice none 0 0, rfl, ⟨by omega⟩, ⟨rfl⟩, ⟨hR⟩, ⟨Kd.R_nil _ _ _ _ _⟩, ⟨ZS.out⟩, ⟨OS.out⟩, ⟨BS.out⟩, ⟨SS.out⟩⟩
        case round =>
          clear hR ZS OS BS SS
          obtain ⟨i, acc, u, rfl, HI, HAC, HR, HO, BZ, BO, HB, HS⟩ := hrel
          have hi := HI.out
          obtain ⟨Au, cu, rfl⟩ := Kd.R_slice HO.out
          cases gk with
          | zero =>
            have hlt : decide (i < n) = false := decide_eq_false (by omega)
            have hr := HR.out
            rw [List.drop_of_length_le (by rw [HN.out]; omega), cont_nil] at hr
            subst hr
            have q0 : wr.cell? ⟨go, 0, none⟩ = some (.string (⟨#[]⟩ : ByteArray)) := (blk_cell BO.out 0).trans rfl
            have q1 : wr.cell? ⟨go, 1, none⟩ = some (.slice Au acc.length cu) := (blk_cell BO.out 1).trans rfl
            clear hi
            go_wp2_with (first | ((with_reducible refine gate_store (t := 38) (p := 4) rfl ?_); refine row_event (by rfl) (by rfl) (by rfl) (by rfl) (by rfl) (by first | exact BZ.out | exact blk_drewN BZ.out _) (by exact sizeC) (by rfl) (by first | rfl | simp [Value.oneCell']) ?_; intro w8 hz8 ho8 hb8; have Z8 := Lib.hid hz8; have HO8 := Lib.hid ho8; have HB8 := Lib.hid (hb8 (Nat.le_refl _) (by first | exact HB.out | exact pw_below_drewN HB.out _)); clear hb8 ho8 hz8))
            refine bodyPost_ret (results_cell_row_tmp rfl _ _ w.heap.size 38 _ (0, 0) _ rfl Z8.out hu rfl (by exact sizeC)) rfl ?_
            exact ⟨_, rfl, Kd.R_lower (R_base HO.out (fun k hk _ => HO8.out k (by have := S1.out; have := S2.out; omega))) (below_size B2.out), HB8.out⟩
          | succ k2 =>
            have hlt : decide (i < n) = true := decide_eq_true (by omega)
            have hltn := eq_true (show i < n by omega)
            have hlt' : (i : Int) < (n : Int) := by omega
            have hi0 : (0 : Int) ≤ (i : Int) := by omega
            obtain ⟨ad', E2, e2, hade, hAt, hk2⟩ := AtW.of_elem HAn.out (i : Int) hi0 hlt'
            have hade' := Option.some.inj hade
            subst hade'
            clear hade
            have q0 := eq_true hi0
            have q1 := eq_true hlt'
            have wi' : IntKind.i64.wrap ((i : Int) + 1) = (i : Int) + 1 := by rw [i64_w]; exact wrap_small _ (by have := HL1.out; omega) (by have := HL1.out; omega)
            have hstep := rd_W l i (by rw [HN.out]; omega)
            have hm := HP.out _ (rd_mem l (i : Int) hi0 (by rw [HN.out]; exact hlt'))
            have hr := HR.out
            rw [hstep] at hr
            have ti : (i : Int).toNat = i := by omega
            rw [ti] at hAt
            generalize rd_T45 l (i : Int) = x at *
            have CA := Lib.hid (arg_calls _ x E2 e2 wr (hAt.below HB.out) (Kd.C_below hk2 HB.out) hm)
            clear hAt hk2 hm hstep HR hi
            cases ha : argP x with
            | none =>
              rw [cont_no _ _ _ _ ha] at hr
              subst hr
              have e1 : argF x = (⟨0, ⟨#[]⟩, [], 0, ⟨#[]⟩⟩, false) := by unfold argF; rw [ha]
              rw [e1] at CA
              clear ha e1
              have CA' := Lib.hid CA.out
              clear CA
              go_wp2_with (first | (go_at_call 32; refine CA'.out.mono ?_; rintro e w5 ⟨v2, rfl, hr5, hb5⟩; obtain ⟨B, cb, rfl⟩ := Kd.R_slice hr5; have BZ5 := Lib.hid (blk_alloc (blk_below BZ.out hb5) zerosA); have HB5 := Lib.hid (below_alloc (below_step HB.out hb5) zerosA); have BN := Lib.hid (blk_new w5 zerosA); have NL := Lib.hid (Nat.ne_of_lt (blk_lt (blk_below BZ.out hb5))); have LE := Lib.hid (below_size (below_step HB.out hb5)); clear hr5 hb5) | ((with_reducible refine gate_store (t := 41) (p := 8) rfl ?_); refine row_event (by rfl) (by rfl) (by rfl) (by rfl) (by rfl) BN.out (by exact sizeA) (by rfl) (by first | rfl | simp [Value.oneCell']) ?_; intro w6 hz6 ho6 hb6; have BZ6 := Lib.hid ((ho6 _ NL.out).trans BZ5.out); have HB6 := Lib.hid (hb6 LE.out HB5.out); clear hb6 ho6 hz6) | ((with_reducible refine gate_store (t := 38) (p := 4) rfl ?_); refine row_event (by rfl) (by rfl) (by rfl) (by rfl) (by rfl) (by first | exact BZ6.out | exact blk_drewN BZ6.out _) (by exact sizeC) (by rfl) (by first | rfl | simp [Value.oneCell']) ?_; intro w8 hz8 ho8 hb8; have Z8 := Lib.hid hz8; have HO8 := Lib.hid ho8; have HB8 := Lib.hid (hb8 (Nat.le_refl _) (by first | exact HB6.out | exact pw_below_drewN HB6.out _)); clear hb8 ho8 hz8))
              refine bodyPost_ret (results_cell_row_tmp rfl _ _ w.heap.size 38 _ (0, 0) _ rfl Z8.out hu rfl (by exact sizeC)) rfl ?_
              exact cmd_nil HB8.out
            | some a =>
              rw [cont_yes _ _ _ _ ha] at hr
              have e1 : argF x = (a, true) := by unfold argF; rw [ha]
              rw [e1] at CA
              clear ha e1
              have HR2 := Aside0.mk hr
              have CA' := Lib.hid CA.out
              clear hr CA
              go_wp2_with (first | (go_at_call 32; refine CA'.out.mono ?_; rintro e w5 ⟨v2, rfl, hr5, hb5⟩; obtain ⟨B, cb, rfl⟩ := Kd.R_slice hr5; have BZ5 := Lib.hid (blk_alloc (blk_below BZ.out hb5) zerosA); have BO5 := Lib.hid (blk_alloc (blk_below BO.out hb5) zerosA); have HB5 := Lib.hid (below_alloc (below_step HB.out hb5) zerosA); have BN := Lib.hid (blk_new w5 zerosA); have NL := Lib.hid (Nat.ne_of_lt (blk_lt (blk_below BZ.out hb5))); have NLo := Lib.hid (Nat.ne_of_lt (blk_lt (blk_below BO.out hb5))); have LE := Lib.hid (below_size (below_step HB.out hb5)); have HW5 := Lib.hid (below_size hb5); have HR5 := Lib.hid hr5; have HO5 := Lib.hid (Kd.R_below HO.out hb5); clear hr5 hb5) | ((with_reducible refine gate_store (t := 41) (p := 8) rfl ?_); refine row_event (by rfl) (by rfl) (by rfl) (by rfl) (by rfl) BN.out (by exact sizeA) (by rfl) (by first | rfl | simp [Value.oneCell']) ?_; intro w6 hz6 ho6 hb6; have Z6 := Lib.hid hz6; have OTH := Lib.hid ho6; have BZ6 := Lib.hid ((ho6 _ NL.out).trans BZ5.out); have BO6 := Lib.hid ((ho6 _ NLo.out).trans BO5.out); have HB6 := Lib.hid (hb6 LE.out HB5.out); have HB56 := Lib.hid (hb6 (Nat.le_refl _) (below_alloc (Below.refl w5.heap.size w5) zerosA)); have c0 := (blk_cell Z6.out 0).trans rfl; have c1 := (blk_cell Z6.out 1).trans rfl; have c2 := (blk_cell Z6.out 2).trans rfl; have c3 := (blk_cell Z6.out 3).trans rfl; have c4 := (blk_cell Z6.out 4).trans rfl; have p1 : w6.cell? ⟨go, 1, none⟩ = some (.slice Au acc.length cu) := (blk_cell BO6.out 1).trans rfl; clear hb6 ho6 hz6) | ((with_reducible refine gate_builtin (b := .append) (xs := #[.tmp 58, .tmp 60]) rfl ?_); at_builtin; refine Kd.R_append kA (w0 := w6) w2.heap.size rfl (.tmp 58) (.tmp 60) 36 41 (.agg #[(.int .i64 0), (.string ⟨#[]⟩), (.slice none 0 0), (.int .i64 0), (.string ⟨#[]⟩)]) 72 rfl Try.underlying36 info41 rfl (by decide) (by omega) (.slice Au acc.length cu) acc a [.int .i64 a.f0, .string a.f1, .slice B a.f2.length cb, .int .i64 a.f3, .string a.f4] (fun _ => True) (fun k => wr.heap.size ≤ k) rfl rfl ?aP ?aK (fun _ _ => trivial) ?aO (Below.refl _ _) ?aS ?aL ?_; (case aP => exact k41_mkM _ _ _ a (Kd.R_mono (Kd.R_below (Kd.R_lower (Kd.R_bound HR5.out) HS.out) HB56.out) (fun k hk => hk.2.1))); (case aK => exact (fun k hk => ⟨trivial, fun he => by have := (R_lt HO.out k he.symm).2; omega⟩)); (case aO => exact (Kd.R_below HO5.out HB56.out)); (case aS => exact (Nat.le_trans HS.out (Nat.le_trans HW5.out (below_size HB56.out)))); (case aL => have h1 := HAC.out; have h2 := HL1.out; omega); intro v9 w9 hr9 hb9 hg9 hat9; obtain ⟨A9, c9, rfl⟩ := Kd.R_slice hr9; have hla : (acc ++ [a]).length = acc.length + 1 := (by simp); rw [hla] at hr9; clear hla; have HR9 := Lib.hid hr9; have HB9 := Lib.hid (HB6.out.trans (hb9.mono (by have := S1.out; have := S2.out; omega))); have SZ9 := Lib.hid (Nat.le_trans HS.out (Nat.le_trans HW5.out (Nat.le_trans (below_size HB56.out) hb9.size))); have BZ9 := Lib.hid ((hg9.block _ (blk_lt BZ6.out) (fun he => by have h1 := (R_lt HO.out _ he.symm).1; have h2 := S1.out; have h3 := S2.out; omega)).trans BZ6.out); have BO9 := Lib.hid ((hg9.block _ (blk_lt BO6.out) (fun he => by have h1 := (R_lt HO.out _ he.symm).1; have h3 := S2.out; omega)).trans BO6.out); have r1 : w9.cell? ⟨go, 1, none⟩ = some (.slice Au acc.length cu) := (blk_cell BO9.out 1).trans rfl; have fr1 := blk_frozen BO9.out 1; clear hr9 hb9 hg9 hat9))
              go_roundg k2
              case measure => omega
              case rel => exact ⟨i + 1, acc ++ [a], .slice A9 (acc.length + 1) c9, by simp, ⟨by have := HI.out; omega⟩, ⟨by rw [List.length_append, HAC.out]; rfl⟩, HR2, ⟨R_base HR9.out (fun k hk _ => Below.heap_setCell _ _ _ k (by have := S2.out; show k ≠ go; omega))⟩, ⟨blk_far BZ9.out NE.out _⟩, ⟨blk_put BO9.out 1 _ rfl⟩, ⟨below_set HB9.out (by have := S1.out; omega)⟩, ⟨by simpa using SZ9.out⟩⟩
      · rw [hno (.inr (by rw [HN.out]; exact hn1))] at hR
        subst hR
        clear hno hbare
        have hn1' : ((n : Int) != 1) = true := bne_iff_ne.2 (by omega)
        go_wp2_with (first | (go_at_call 23; refine (CF.out _).mono ?_; rintro e w' ⟨rfl, ⟨nd, rfl⟩⟩) | ((with_reducible refine gate_store (t := 38) (p := 4) rfl ?_); refine row_event (by rfl) (by rfl) (by rfl) (by rfl) (by rfl) (by first | exact Z2.out | exact blk_drewN Z2.out _) (by exact sizeC) (by rfl) (by first | rfl | simp [Value.oneCell']) ?_; intro w8 hz8 ho8 hb8; have Z8 := Lib.hid hz8; have HO8 := Lib.hid ho8; have HB8 := Lib.hid (hb8 (Nat.le_refl _) (by first | exact B2.out | exact pw_below_drewN B2.out _)); clear hb8 ho8 hz8))
        refine bodyPost_ret (results_cell_row_tmp rfl _ _ w.heap.size 38 _ (0, 0) _ rfl Z8.out hu rfl (by exact sizeC)) rfl ?_
        exact cmd_nil HB8.out
    · clear CF
      cases b
      · rw [hno (.inl rfl)] at hR
        subst hR
        clear hno hbare
        go_wp2_with (first | ((with_reducible refine gate_store (t := 38) (p := 4) rfl ?_); refine row_event (by rfl) (by rfl) (by rfl) (by rfl) (by rfl) (by first | exact Z2.out | exact blk_drewN Z2.out _) (by exact sizeC) (by rfl) (by first | rfl | simp [Value.oneCell']) ?_; intro w8 hz8 ho8 hb8; have Z8 := Lib.hid hz8; have HO8 := Lib.hid ho8; have HB8 := Lib.hid (hb8 (Nat.le_refl _) (by first | exact B2.out | exact pw_below_drewN B2.out _)); clear hb8 ho8 hz8))
        refine bodyPost_ret (results_cell_row_tmp rfl _ _ w.heap.size 38 _ (0, 0) _ rfl Z8.out hu rfl (by exact sizeC)) rfl ?_
        exact cmd_nil HB8.out
      by_cases hn1 : n = 1
      · rw [hbare rfl (by rw [HN.out]; exact hn1)] at hR
        clear hno hbare
        have hn1' : ((n : Int) != 1) = false := bne_eq_false_iff_eq.2 (by omega)
        clear hn1
        go_wp2
        have HL1 := Lib.hid (by have := HL.out; have := HN.out; omega : n ≤ 1048576)
        have HAn := Lib.hid (by have h := HA.out; rw [HN.out] at h; exact h : Kd.C kW w (some ad) n l)
        have ZS := Lib.hid (show w2.heap[w.heap.size]? = some zerosC from Z2.out)
        have OS := Lib.hid (show w2.heap[go]? = some (.cells #[.string ⟨#[]⟩, .slice none 0 0] 38 (0, 0)) from O2.out)
        have BS := Lib.hid (show Below w.heap.size w w2 from B2.out)
        have SS := Lib.hid (show w2.heap.size ≤ w2.heap.size by simp)
        clear HL HC a0 a1 a2 a3 o0 fo0 hn1' hlenp hlenp'
        go_loopg [44] n (fun kq v44 wr => ∃ (i : Nat) (acc : List Ag) (u : Value), v44 = .int .i64 (i : Int) ∧ Aside0 (i + kq = n) ∧ Aside0 (acc.length = i) ∧ Aside0 (contF (⟨#[]⟩ : ByteArray) acc (l.drop i) = R) ∧ Aside0 (kA.R 41 wr w2.heap.size (fun _ => True) u acc) ∧ Aside0 (wr.heap[w.heap.size]? = some zerosC) ∧ Aside0 (wr.heap[go]? = some (.cells #[.string (⟨#[]⟩ : ByteArray), u] 38 (0, 0))) ∧ Aside0 (Below w.heap.size w wr) ∧ Aside0 (w2.heap.size ≤ wr.heap.size))
        case atStart => exact ⟨0, [], .slice none 0 0, rfl, ⟨by omega⟩, ⟨rfl⟩, ⟨hR⟩, ⟨Kd.R_nil _ _ _ _ _⟩, ⟨ZS.out⟩, ⟨OS.out⟩, ⟨BS.out⟩, ⟨SS.out⟩⟩
        case round =>
          clear hR ZS OS BS SS
          obtain ⟨i, acc, u, rfl, HI, HAC, HR, HO, BZ, BO, HB, HS⟩ := hrel
          have hi := HI.out
          obtain ⟨Au, cu, rfl⟩ := Kd.R_slice HO.out
          cases gk with
          | zero =>
            have hlt : decide (i < n) = false := decide_eq_false (by omega)
            have hr := HR.out
            rw [List.drop_of_length_le (by rw [HN.out]; omega), cont_nil] at hr
            subst hr
            have q0 : wr.cell? ⟨go, 0, none⟩ = some (.string (⟨#[]⟩ : ByteArray)) := (blk_cell BO.out 0).trans rfl
            have q1 : wr.cell? ⟨go, 1, none⟩ = some (.slice Au acc.length cu) := (blk_cell BO.out 1).trans rfl
            clear hi
            go_wp2_with (first | ((with_reducible refine gate_store (t := 38) (p := 4) rfl ?_); refine row_event (by rfl) (by rfl) (by rfl) (by rfl) (by rfl) (by first | exact BZ.out | exact blk_drewN BZ.out _) (by exact sizeC) (by rfl) (by first | rfl | simp [Value.oneCell']) ?_; intro w8 hz8 ho8 hb8; have Z8 := Lib.hid hz8; have HO8 := Lib.hid ho8; have HB8 := Lib.hid (hb8 (Nat.le_refl _) (by first | exact HB.out | exact pw_below_drewN HB.out _)); clear hb8 ho8 hz8))
            refine bodyPost_ret (results_cell_row_tmp rfl _ _ w.heap.size 38 _ (0, 0) _ rfl Z8.out hu rfl (by exact sizeC)) rfl ?_
            exact ⟨_, rfl, Kd.R_lower (R_base HO.out (fun k hk _ => HO8.out k (by have := S1.out; have := S2.out; omega))) (below_size B2.out), HB8.out⟩
          | succ k2 =>
            have hlt : decide (i < n) = true := decide_eq_true (by omega)
            have hltn := eq_true (show i < n by omega)
            have hlt' : (i : Int) < (n : Int) := by omega
            have hi0 : (0 : Int) ≤ (i : Int) := by omega
            obtain ⟨ad', E2, e2, hade, hAt, hk2⟩ := AtW.of_elem HAn.out (i : Int) hi0 hlt'
            have hade' := Option.some.inj hade
            subst hade'
            clear hade
            have q0 := eq_true hi0
            have q1 := eq_true hlt'
            have wi' : IntKind.i64.wrap ((i : Int) + 1) = (i : Int) + 1 := by rw [i64_w]; exact wrap_small _ (by have := HL1.out; omega) (by have := HL1.out; omega)
            have hstep := rd_W l i (by rw [HN.out]; omega)
            have hm := HP.out _ (rd_mem l (i : Int) hi0 (by rw [HN.out]; exact hlt'))
            have hr := HR.out
            rw [hstep] at hr
            have ti : (i : Int).toNat = i := by omega
            rw [ti] at hAt
            generalize rd_T45 l (i : Int) = x at *
            have CA := Lib.hid (arg_calls _ x E2 e2 wr (hAt.below HB.out) (Kd.C_below hk2 HB.out) hm)
            clear hAt hk2 hm hstep HR hi
            cases ha : argP x with
            | none =>
              rw [cont_no _ _ _ _ ha] at hr
              subst hr
              have e1 : argF x = (⟨0, ⟨#[]⟩, [], 0, ⟨#[]⟩⟩, false) := by unfold argF; rw [ha]
              rw [e1] at CA
              clear ha e1
              have CA' := Lib.hid CA.out
              clear CA
              go_wp2_with (first | (go_at_call 32; refine CA'.out.mono ?_; rintro e w5 ⟨v2, rfl, hr5, hb5⟩; obtain ⟨B, cb, rfl⟩ := Kd.R_slice hr5; have BZ5 := Lib.hid (blk_alloc (blk_below BZ.out hb5) zerosA); have HB5 := Lib.hid (below_alloc (below_step HB.out hb5) zerosA); have BN := Lib.hid (blk_new w5 zerosA); have NL := Lib.hid (Nat.ne_of_lt (blk_lt (blk_below BZ.out hb5))); have LE := Lib.hid (below_size (below_step HB.out hb5)); clear hr5 hb5) | ((with_reducible refine gate_store (t := 41) (p := 8) rfl ?_); refine row_event (by rfl) (by rfl) (by rfl) (by rfl) (by rfl) BN.out (by exact sizeA) (by rfl) (by first | rfl | simp [Value.oneCell']) ?_; intro w6 hz6 ho6 hb6; have BZ6 := Lib.hid ((ho6 _ NL.out).trans BZ5.out); have HB6 := Lib.hid (hb6 LE.out HB5.out); clear hb6 ho6 hz6) | ((with_reducible refine gate_store (t := 38) (p := 4) rfl ?_); refine row_event (by rfl) (by rfl) (by rfl) (by rfl) (by rfl) (by first | exact BZ6.out | exact blk_drewN BZ6.out _) (by exact sizeC) (by rfl) (by first | rfl | simp [Value.oneCell']) ?_; intro w8 hz8 ho8 hb8; have Z8 := Lib.hid hz8; have HO8 := Lib.hid ho8; have HB8 := Lib.hid (hb8 (Nat.le_refl _) (by first | exact HB6.out | exact pw_below_drewN HB6.out _)); clear hb8 ho8 hz8))
              refine bodyPost_ret (results_cell_row_tmp rfl _ _ w.heap.size 38 _ (0, 0) _ rfl Z8.out hu rfl (by exact sizeC)) rfl ?_
              exact cmd_nil HB8.out
            | some a =>
              rw [cont_yes _ _ _ _ ha] at hr
              have e1 : argF x = (a, true) := by unfold argF; rw [ha]
              rw [e1] at CA
              clear ha e1
              have HR2 := Aside0.mk hr
              have CA' := Lib.hid CA.out
              clear hr CA
              go_wp2_with (first | (go_at_call 32; refine CA'.out.mono ?_; rintro e w5 ⟨v2, rfl, hr5, hb5⟩; obtain ⟨B, cb, rfl⟩ := Kd.R_slice hr5; have BZ5 := Lib.hid (blk_alloc (blk_below BZ.out hb5) zerosA); have BO5 := Lib.hid (blk_alloc (blk_below BO.out hb5) zerosA); have HB5 := Lib.hid (below_alloc (below_step HB.out hb5) zerosA); have BN := Lib.hid (blk_new w5 zerosA); have NL := Lib.hid (Nat.ne_of_lt (blk_lt (blk_below BZ.out hb5))); have NLo := Lib.hid (Nat.ne_of_lt (blk_lt (blk_below BO.out hb5))); have LE := Lib.hid (below_size (below_step HB.out hb5)); have HW5 := Lib.hid (below_size hb5); have HR5 := Lib.hid hr5; have HO5 := Lib.hid (Kd.R_below HO.out hb5); clear hr5 hb5) | ((with_reducible refine gate_store (t := 41) (p := 8) rfl ?_); refine row_event (by rfl) (by rfl) (by rfl) (by rfl) (by rfl) BN.out (by exact sizeA) (by rfl) (by first | rfl | simp [Value.oneCell']) ?_; intro w6 hz6 ho6 hb6; have Z6 := Lib.hid hz6; have OTH := Lib.hid ho6; have BZ6 := Lib.hid ((ho6 _ NL.out).trans BZ5.out); have BO6 := Lib.hid ((ho6 _ NLo.out).trans BO5.out); have HB6 := Lib.hid (hb6 LE.out HB5.out); have HB56 := Lib.hid (hb6 (Nat.le_refl _) (below_alloc (Below.refl w5.heap.size w5) zerosA)); have c0 := (blk_cell Z6.out 0).trans rfl; have c1 := (blk_cell Z6.out 1).trans rfl; have c2 := (blk_cell Z6.out 2).trans rfl; have c3 := (blk_cell Z6.out 3).trans rfl; have c4 := (blk_cell Z6.out 4).trans rfl; have p1 : w6.cell? ⟨go, 1, none⟩ = some (.slice Au acc.length cu) := (blk_cell BO6.out 1).trans rfl; clear hb6 ho6 hz6) | ((with_reducible refine gate_builtin (b := .append) (xs := #[.tmp 58, .tmp 60]) rfl ?_); at_builtin; refine Kd.R_append kA (w0 := w6) w2.heap.size rfl (.tmp 58) (.tmp 60) 36 41 (.agg #[(.int .i64 0), (.string ⟨#[]⟩), (.slice none 0 0), (.int .i64 0), (.string ⟨#[]⟩)]) 72 rfl Try.underlying36 info41 rfl (by decide) (by omega) (.slice Au acc.length cu) acc a [.int .i64 a.f0, .string a.f1, .slice B a.f2.length cb, .int .i64 a.f3, .string a.f4] (fun _ => True) (fun k => wr.heap.size ≤ k) rfl rfl ?aP ?aK (fun _ _ => trivial) ?aO (Below.refl _ _) ?aS ?aL ?_; (case aP => exact k41_mkM _ _ _ a (Kd.R_mono (Kd.R_below (Kd.R_lower (Kd.R_bound HR5.out) HS.out) HB56.out) (fun k hk => hk.2.1))); (case aK => exact (fun k hk => ⟨trivial, fun he => by have := (R_lt HO.out k he.symm).2; omega⟩)); (case aO => exact (Kd.R_below HO5.out HB56.out)); (case aS => exact (Nat.le_trans HS.out (Nat.le_trans HW5.out (below_size HB56.out)))); (case aL => have h1 := HAC.out; have h2 := HL1.out; omega); intro v9 w9 hr9 hb9 hg9 hat9; obtain ⟨A9, c9, rfl⟩ := Kd.R_slice hr9; have hla : (acc ++ [a]).length = acc.length + 1 := (by simp); rw [hla] at hr9; clear hla; have HR9 := Lib.hid hr9; have HB9 := Lib.hid (HB6.out.trans (hb9.mono (by have := S1.out; have := S2.out; omega))); have SZ9 := Lib.hid (Nat.le_trans HS.out (Nat.le_trans HW5.out (Nat.le_trans (below_size HB56.out) hb9.size))); have BZ9 := Lib.hid ((hg9.block _ (blk_lt BZ6.out) (fun he => by have h1 := (R_lt HO.out _ he.symm).1; have h2 := S1.out; have h3 := S2.out; omega)).trans BZ6.out); have BO9 := Lib.hid ((hg9.block _ (blk_lt BO6.out) (fun he => by have h1 := (R_lt HO.out _ he.symm).1; have h3 := S2.out; omega)).trans BO6.out); have r1 : w9.cell? ⟨go, 1, none⟩ = some (.slice Au acc.length cu) := (blk_cell BO9.out 1).trans rfl; have fr1 := blk_frozen BO9.out 1; clear hr9 hb9 hg9 hat9))
              go_roundg k2
              case measure => omega
              case rel => exact ⟨i + 1, acc ++ [a], .slice A9 (acc.length + 1) c9, by simp, ⟨by have := HI.out; omega⟩, ⟨by rw [List.length_append, HAC.out]; rfl⟩, HR2, ⟨R_base HR9.out (fun k hk _ => Below.heap_setCell _ _ _ k (by have := S2.out; show k ≠ go; omega))⟩, ⟨blk_far BZ9.out NE.out _⟩, ⟨blk_put BO9.out 1 _ rfl⟩, ⟨below_set HB9.out (by have := S1.out; omega)⟩, ⟨by simpa using SZ9.out⟩⟩
      · rw [hno (.inr (by rw [HN.out]; exact hn1))] at hR
        subst hR
        clear hno hbare
        have hn1' : ((n : Int) != 1) = true := bne_iff_ne.2 (by omega)
        go_wp2_with (first | ((with_reducible refine gate_store (t := 38) (p := 4) rfl ?_); refine row_event (by rfl) (by rfl) (by rfl) (by rfl) (by rfl) (by first | exact Z2.out | exact blk_drewN Z2.out _) (by exact sizeC) (by rfl) (by first | rfl | simp [Value.oneCell']) ?_; intro w8 hz8 ho8 hb8; have Z8 := Lib.hid hz8; have HO8 := Lib.hid ho8; have HB8 := Lib.hid (hb8 (Nat.le_refl _) (by first | exact B2.out | exact pw_below_drewN B2.out _)); clear hb8 ho8 hz8))
        refine bodyPost_ret (results_cell_row_tmp rfl _ _ w.heap.size 38 _ (0, 0) _ rfl Z8.out hu rfl (by exact sizeC)) rfl ?_
        exact cmd_nil HB8.out
end Go.Proofs.Ythaapadjlknieaa.Pipe
