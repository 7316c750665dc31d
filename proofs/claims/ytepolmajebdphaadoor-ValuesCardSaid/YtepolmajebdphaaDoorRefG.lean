/- The reference's Get, of any tree and any path, walked. -/
import Derived.Test.YtepolmajebdphaaDoorRefV
namespace Go.Proofs.YtepolmajebdphaaDoor.Values
open Go.RowKit Go.Proofs.YtepolmajebdphaaDoor.Q Go.Proofs.YtepolmajebdphaaDoor.Real Go.Proofs.YtepolmajebdphaaDoor.RealPure Go.Proofs.YtepolmajebdphaaDoorW.PrintWords Go.Proofs.YtepolmajebdphaaDoorW.PrintLast Go.Proofs.YtepolmajebdphaaDoorW.PrintMore
set_option linter.unusedSimpArgs false
set_option linter.unusedVariables false
set_option maxRecDepth 100000
/-- The last key's place. -/
def lastL (l : List ByteArray) (key : ByteArray) : Nat → Nat → Int → Int
  | 0, _, a => a
  | m + 1, i, a => lastL l key m (i + 1) (if (l.getD i ByteArray.empty).toList = key.toList then (i : Int) else a)
theorem lastL_range (l : List ByteArray) (key : ByteArray) : ∀ (m i : Nat) (a : Int), -1 ≤ a → a < (i : Int) → -1 ≤ lastL l key m i a ∧ lastL l key m i a < ((i + m : Nat) : Int)
  | 0, i, a, h0, h1 => ⟨h0, h1⟩
  | m + 1, i, a, h0, h1 => by
    have := lastL_range l key m (i + 1) (if (l.getD i ByteArray.empty).toList = key.toList then (i : Int) else a) (by split <;> omega) (by split <;> omega)
    unfold lastL
    omega
def refAt : V → List ByteArray → V × Int
  | x, [] => (x, 0)
  | x, k :: ks => if x.f0 == 6 then (if lastL x.f5 k x.f5.length 0 (-1) < 0 then (z26, 401) else refAt (rd_T26 x.f4 (lastL x.f5 k x.f5.length 0 (-1))) ks) else (z26, 402)
def refGetR (x : V) (ps : List ByteArray) : V × Int := if mayB x = true ∧ ps.length ≤ 8 then refAt x ps else (z26, 400)
set_option maxHeartbeats 32000000 in
theorem RefGet_calls (x : V) (A4 : Option Addr) (c4 : Nat) (A5 : Option Addr) (c5 : Nat) (P : Option Addr) (cp : Nat) (ps : List ByteArray) (w : World) (h : Rows4 w x A4 c4 A5 c5) (hp : Kd.C Kd.string w P ps.length ps) :
    Calls Tryd.prog 24 #[arg x A4 c4 A5 c5, .slice P ps.length cp] w fun e w' => ∃ B4 d4 B5 d5, e = .returned (.tuple #[arg (refGetR x ps).1 B4 d4 B5 d5, .int .i64 (refGetR x ps).2]) ∧ Rows4 w (refGetR x ps).1 B4 d4 B5 d5 ∧ Below w.heap.size w w' := by
  have hu26 := Tryd.underlying26
  have H0 := Lib.hid h; have HP := Lib.hid hp
  have CM := Lib.hid (show ∀ W, Below w.heap.size w W → Calls Tryd.prog 29 #[.agg #[.int .i64 x.f0, .int .i64 x.f1, .int .u64 x.f2, .string x.f3, .slice A4 x.f4.length c4, .slice A5 x.f5.length c5]] W fun e w' => e = .returned (.bool (mayB x)) ∧ Below W.heap.size W w' from fun W hb => RefMay_calls x A4 c4 A5 c5 W (h.below hb))
  obtain ⟨R, hR⟩ : ∃ R, refGetR x ps = R := ⟨_, rfl⟩
  rw [hR]
  have HRR := Lib.hid hR
  clear h hp hR
  go_enter Tryd.func24, Tryd.ntmps24
  go_upto_region 1 with (first | ((with_reducible refine gate_dst (N := 2) rfl ?_); (try (refine gate_guard (by rfl) ?_; dsimp only)); refine box_event ?hg (N := 2) ?hd (cs := #[.int .i64 x.f0, .int .i64 x.f1, .int .u64 x.f2, .string x.f3, .slice A4 x.f4.length c4, .slice A5 x.f5.length c5]) (t := 26) ?hr ?_; (case hd => rfl); (case hg => rfl); (case hr => first | (go_simp; done) | (go_simp; rfl)); intro gb hg w3 hbox hb; have BK := Aside0.mk hbox; have HB := Aside0.mk hb; have GE := Lib.hid hg; clear hb hbox hg))
  have hne : gb ≠ w3.heap.size := Nat.ne_of_lt (blk_lt BK.out)
  have NE := Lib.hid hne
  have A1 := Aside0.mk (blk_alloc BK.out (.cells #[.int .i64 0, .int .i64 0, .int .u64 0, .string ⟨#[]⟩, .slice none 0 0, .slice none 0 0] 26))
  have A2 := Aside0.mk (blk_new w3 (.cells #[.int .i64 0, .int .i64 0, .int .u64 0, .string ⟨#[]⟩, .slice none 0 0, .slice none 0 0] 26))
  have A3 := Aside0.mk (below_alloc HB.out (.cells #[.int .i64 0, .int .i64 0, .int .u64 0, .string ⟨#[]⟩, .slice none 0 0, .slice none 0 0] 26))
  have GZ := Lib.hid (below_size HB.out)
  clear HB BK hne
  generalize w3.heap.size = gz at *
  generalize hw4 : w3.alloc (.cells #[.int .i64 0, .int .i64 0, .int .u64 0, .string ⟨#[]⟩, .slice none 0 0, .slice none 0 0] 26) = w4 at *
  clear hw4
  have BK := A1; have BZ := A2; have HB := A3
  clear A1 A2 A3
  obtain ⟨g0, g1, g2, g3, g4, g5⟩ := At.of_box BK.out
  have z0 := blk_frozen BZ.out 0
  by_cases hm : mayB x = true
  case neg =>
    have hmf : mayB x = false := by simpa using hm
    rw [hmf] at CM
    have e1 : R = (z26, 400) := by have := HRR.out; unfold refGetR at this; rw [if_neg (by rw [hmf]; simp)] at this; exact this.symm
    subst e1
    clear hm hmf
    go_wp2_with (first | (go_at_call 29; (with_reducible refine (CM.out _ HB.out).mono ?_); rintro e wn ⟨rfl, hbn⟩; have HBn := Aside0.mk (below_step HB.out hbn); have BKn := Aside0.mk (blk_below BK.out hbn); have BZn := Aside0.mk (blk_below BZ.out hbn); clear HB BK BZ; have HB := HBn; have BK := BKn; have BZ := BZn; clear HBn BKn BZn hbn; clear g0 g1 g2 g3 g4 g5; obtain ⟨g0, g1, g2, g3, g4, g5⟩ := At.of_box BK.out; have z0 := blk_frozen BZ.out 0) | ((with_reducible refine gate_store (t := 26) (p := 4) rfl ?_); refine row_event (by rfl) (by rfl) (by rfl) (by rfl) (by rfl) BZ.out (by exact size26) (by rfl) (by first | rfl | simp [Value.oneCell']) ?_; intro w5 hz5 ho5 hb5; have Z5 := Lib.hid hz5; clear hz5; have HB5 := Lib.hid (hb5 GZ.out HB.out); clear hb5 ho5))
    refine bodyPost_ret (results_cell_row_tmp rfl _ _ gz 26 _ (0, 0) _ rfl Z5.out hu26 rfl (by exact size26)) rfl ?_
    exact ⟨none, 0, none, 0, rfl, ⟨Kd.C_nil _ _, Nat.le_refl _, Kd.C_nil _ _, Nat.le_refl _⟩, HB5.out⟩
  rw [hm] at CM
  by_cases hl8 : (8 : Int) < (ps.length : Int)
  · have d8 : decide ((8 : Int) < (ps.length : Int)) = true := decide_eq_true hl8
    have e1 : R = (z26, 400) := by have := HRR.out; unfold refGetR at this; rw [if_neg (by intro h; omega)] at this; exact this.symm
    subst e1
    clear hm hl8
    go_wp2_with (first | (go_at_call 29; (with_reducible refine (CM.out _ HB.out).mono ?_); rintro e wn ⟨rfl, hbn⟩; have HBn := Aside0.mk (below_step HB.out hbn); have BKn := Aside0.mk (blk_below BK.out hbn); have BZn := Aside0.mk (blk_below BZ.out hbn); clear HB BK BZ; have HB := HBn; have BK := BKn; have BZ := BZn; clear HBn BKn BZn hbn; clear g0 g1 g2 g3 g4 g5; obtain ⟨g0, g1, g2, g3, g4, g5⟩ := At.of_box BK.out; have z0 := blk_frozen BZ.out 0) | ((with_reducible refine gate_store (t := 26) (p := 4) rfl ?_); refine row_event (by rfl) (by rfl) (by rfl) (by rfl) (by rfl) BZ.out (by exact size26) (by rfl) (by first | rfl | simp [Value.oneCell']) ?_; intro w5 hz5 ho5 hb5; have Z5 := Lib.hid hz5; clear hz5; have HB5 := Lib.hid (hb5 GZ.out HB.out); clear hb5 ho5))
    refine bodyPost_ret (results_cell_row_tmp rfl _ _ gz 26 _ (0, 0) _ rfl Z5.out hu26 rfl (by exact size26)) rfl ?_
    exact ⟨none, 0, none, 0, rfl, ⟨Kd.C_nil _ _, Nat.le_refl _, Kd.C_nil _ _, Nat.le_refl _⟩, HB5.out⟩
  have d8 : decide ((8 : Int) < (ps.length : Int)) = false := decide_eq_false hl8
  have hRR : refAt x ps = R := by have := HRR.out; unfold refGetR at this; rwa [if_pos ⟨hm, by omega⟩] at this
  have HGO := Lib.hid (okG_of_may 8 x 1024 hm)
  have HPL := Lib.hid (show ps.length ≤ 8 by omega)
  have HM0 := Lib.hid hRR
  clear hm hl8 hRR HRR
  go_upto_region 3 with (first | (go_at_call 29; (with_reducible refine (CM.out _ HB.out).mono ?_); rintro e wn ⟨rfl, hbn⟩; have HBn := Aside0.mk (below_step HB.out hbn); have BKn := Aside0.mk (blk_below BK.out hbn); have BZn := Aside0.mk (blk_below BZ.out hbn); clear HB BK BZ; have HB := HBn; have BK := BKn; have BZ := BZn; clear HBn BKn BZn hbn; clear g0 g1 g2 g3 g4 g5; obtain ⟨g0, g1, g2, g3, g4, g5⟩ := At.of_box BK.out; have z0 := blk_frozen BZ.out 0))
  clear g0 g1 g2 g3 g4 g5 z0
  go_wp2
  go_loopg [6, 7, 8] ps.length (fun kq v6 v7 v8 w' => ∃ (i : Int) (y : V) (E4 : Option Addr) (e4 : Nat) (E5 : Option Addr) (e5 : Nat), v6 = .int .i64 i ∧ Aside0 (i + kq = ps.length ∧ 0 ≤ i) ∧ Aside0 (refAt y (ps.drop i.toNat) = R) ∧ Aside0 (∃ d', okG d' y) ∧ Aside0 (Rows4 w y E4 e4 E5 e5) ∧ Aside0 (w'.heap[gb]? = some (.cells #[.int .i64 y.f0, .int .i64 y.f1, .int .u64 y.f2, .string y.f3, .slice E4 y.f4.length e4, .slice E5 y.f5.length e5] 26 (0, 0))) ∧ Aside0 (w'.heap[gz]? = some (.cells #[.int .i64 0, .int .i64 0, .int .u64 0, .string ⟨#[]⟩, .slice none 0 0, .slice none 0 0] 26 (0, 0))) ∧ Aside0 (Below w.heap.size w w'))
  case atStart => exact ⟨0, x, A4, c4, A5, c5, rfl, ⟨by omega, by omega⟩, ⟨HM0.out⟩, ⟨⟨8, HGO.out⟩⟩, ⟨H0.out⟩, BK, BZ, HB⟩
  case round =>
    clear BK BZ HB
    obtain ⟨i, y, E4, e4, E5, e5, rfl, HI, HM, HO, HR, BK, BZ, HB⟩ := hrel
    obtain ⟨hi1, hi0⟩ := HI.out
    obtain ⟨g0, g1, g2, g3, g4, g5⟩ := At.of_box BK.out
    have f0 := blk_frozen BK.out 0
    have z0 := blk_frozen BZ.out 0
    cases gk with
    | zero =>
      have hlt : decide (i < (ps.length : Int)) = false := decide_eq_false (by omega)
      have e := HM.out
      rw [List.drop_of_length_le (by omega)] at e
      have e1 : R = (y, 0) := by rw [← e]; cases y; rfl
      clear e hi1 hi0
      subst e1
      go_wp2_with (first | ((with_reducible refine gate_store (t := 26) (p := 4) rfl ?_); refine row_event (by rfl) (by rfl) (by rfl) (by rfl) (by rfl) BZ.out (by exact size26) (by rfl) (by first | rfl | simp [Value.oneCell']) ?_; intro w5 hz5 ho5 hb5; have Z5 := Lib.hid hz5; clear hz5; have HB5 := Lib.hid (hb5 GZ.out HB.out); clear hb5 ho5))
      refine bodyPost_ret (results_cell_row_tmp rfl _ _ gz 26 _ (0, 0) _ rfl Z5.out hu26 rfl (by exact size26)) rfl ?_
      exact ⟨_, _, _, _, rfl, HR.out, HB5.out⟩
    | succ k2 =>
      have hlt : decide (i < (ps.length : Int)) = true := decide_eq_true (by omega)
      have hlt' : i < (ps.length : Int) := by omega
      have hstep : refAt y (rdOf ByteArray.empty ps i :: ps.drop (i + 1).toNat) = R := by
        have e := HM.out
        rw [List.drop_eq_getElem_cons (by omega : i.toNat < ps.length)] at e
        rw [show (i + 1).toNat = i.toNat + 1 by omega]
        have e2 : rdOf ByteArray.empty ps i = ps[i.toNat]'(by omega) := by
          show ps.getD i.toNat ByteArray.empty = _
          rw [List.getD_eq_getElem?_getD, List.getElem?_eq_getElem (by omega)]; rfl
        rw [e2]; exact e
      obtain ⟨pd, ep, hpc⟩ := Kd.at_string HP.out i hi0 hlt'
      cases ep
      have pc := pw_cell_below HB.out hpc
      have q0 := eq_true hi0
      have q1 := eq_true hlt'
      have wi : wrap64 (i + 1) = i + 1 := wrap_small _ (by omega) (by have := HPL.out; omega)
      have wi' : IntKind.i64.wrap (i + 1) = i + 1 := by rw [i64_w]; exact wi
      have HI2 := Aside0.mk (show i + 1 + k2 = ps.length ∧ 0 ≤ i + 1 from ⟨by omega, by omega⟩)
      rw [show refAt y (rdOf ByteArray.empty ps i :: ps.drop (i + 1).toNat) = (if y.f0 == 6 then (if lastL y.f5 (rdOf ByteArray.empty ps i) y.f5.length 0 (-1) < 0 then (z26, 401) else refAt (rd_T26 y.f4 (lastL y.f5 (rdOf ByteArray.empty ps i) y.f5.length 0 (-1))) (ps.drop (i + 1).toNat)) else (z26, 402)) from rfl] at hstep
      generalize rdOf ByteArray.empty ps i = key at pc hpc hstep
      obtain ⟨k6, hk6⟩ : ∃ q, (y.f0 == 6) = q := ⟨_, rfl⟩
      have hn6 : (y.f0 != 6) = !k6 := by rw [← hk6]; rfl
      rw [hk6] at hstep
      have HPC := Lib.hid hpc
      clear hpc HM
      cases k6
      · have e1 : (z26, 402) = R := hstep
        subst e1
        clear hstep
        go_wp2_with (first | ((with_reducible refine gate_store (t := 26) (p := 4) rfl ?_); refine row_event (by rfl) (by rfl) (by rfl) (by rfl) (by rfl) BZ.out (by exact size26) (by rfl) (by first | rfl | simp [Value.oneCell']) ?_; intro w5 hz5 ho5 hb5; have Z5 := Lib.hid hz5; clear hz5; have HB5 := Lib.hid (hb5 GZ.out HB.out); clear hb5 ho5))
        refine bodyPost_ret (results_cell_row_tmp rfl _ _ gz 26 _ (0, 0) _ rfl Z5.out hu26 rfl (by exact size26)) rfl ?_
        exact ⟨none, 0, none, 0, rfl, ⟨Kd.C_nil _ _, Nat.le_refl _, Kd.C_nil _ _, Nat.le_refl _⟩, HB5.out⟩
      · obtain ⟨d', hO⟩ := HO.out
        obtain ⟨hown, hkids⟩ : ownB y = true ∧ ∃ d'', ∀ z ∈ y.f4, okG d'' z := by
          cases d' with
          | zero => exact hO.elim
          | succ d'' => exact ⟨hO.1, d'', hO.2⟩
        have hkl := keys_len hown (beq_iff_eq.1 hk6)
        have hl64 := (len_of_own hown).2
        obtain ⟨L, hL⟩ : ∃ L, lastL y.f5 key y.f5.length 0 (-1) = L := ⟨_, rfl⟩
        have hLr := lastL_range y.f5 key y.f5.length 0 (-1) (by omega) (by omega)
        rw [hL] at hstep hLr
        have HST := Lib.hid (show (if L < 0 then ((z26, 401) : V × Int) else refAt (rd_T26 y.f4 L) (ps.drop (i + 1).toNat)) = R from hstep)
        have HL := Lib.hid hL; have HLR := Lib.hid hLr; have HKL := Lib.hid hkl; have H64 := Lib.hid hl64; have HKD := Lib.hid hkids; have HI0 := Lib.hid hi0; have HLT := Lib.hid hlt'; have HI2H := Lib.hid HI2
        clear hstep hL hLr hkl hl64 hown hkids hO hi1 hi0 hlt'
        go_upto_region 8 with (fail)
        clear g0 g1 g2 g3 g4 g5 f0 z0 pc HI HO
        go_wp2
        go_loopg [7, 8] y.f5.length (fun kq v7 v8 w' => ∃ (k a : Int), v7 = .int .i64 a ∧ v8 = .int .i64 k ∧ Aside0 (k + kq = y.f5.length ∧ 0 ≤ k) ∧ Aside0 (lastL y.f5 key kq k.toNat a = L) ∧ Aside0 (w'.heap[gb]? = some (.cells #[.int .i64 y.f0, .int .i64 y.f1, .int .u64 y.f2, .string y.f3, .slice E4 y.f4.length e4, .slice E5 y.f5.length e5] 26 (0, 0))) ∧ Aside0 (w'.heap[gz]? = some (.cells #[.int .i64 0, .int .i64 0, .int .u64 0, .string ⟨#[]⟩, .slice none 0 0, .slice none 0 0] 26 (0, 0))) ∧ Aside0 (Below w.heap.size w w'))
        case atStart => exact ⟨0, -1, rfl, rfl, ⟨by omega, by omega⟩, ⟨HL.out⟩, BK, BZ, HB⟩
        case round =>
        clear BK BZ HB
        obtain ⟨k, a, rfl, rfl, HKI, HLA, BK, BZ, HB⟩ := hrel
        obtain ⟨hk1, hk0⟩ := HKI.out
        obtain ⟨g0, g1, g2, g3, g4, g5⟩ := At.of_box BK.out
        have f0 := blk_frozen BK.out 0
        have z0 := blk_frozen BZ.out 0
        cases gk with
        | zero =>
          have hlk : decide (k < (y.f5.length : Int)) = false := decide_eq_false (by omega)
          obtain rfl : a = L := HLA.out
          by_cases hneg : a < 0
          · have dn : decide (a < 0) = true := decide_eq_true hneg
            have e1 : (z26, 401) = R := by have := HST.out; rwa [if_pos hneg] at this
            subst e1
            clear hneg hk1 hk0
            go_wp2_with (first | ((with_reducible refine gate_store (t := 26) (p := 4) rfl ?_); refine row_event (by rfl) (by rfl) (by rfl) (by rfl) (by rfl) BZ.out (by exact size26) (by rfl) (by first | rfl | simp [Value.oneCell']) ?_; intro w5 hz5 ho5 hb5; have Z5 := Lib.hid hz5; clear hz5; have HB5 := Lib.hid (hb5 GZ.out HB.out); clear hb5 ho5))
            refine bodyPost_ret (results_cell_row_tmp rfl _ _ gz 26 _ (0, 0) _ rfl Z5.out hu26 rfl (by exact size26)) rfl ?_
            exact ⟨none, 0, none, 0, rfl, ⟨Kd.C_nil _ _, Nat.le_refl _, Kd.C_nil _ _, Nat.le_refl _⟩, HB5.out⟩
          · have dn : decide (a < 0) = false := decide_eq_false hneg
            have hM2 : refAt (rd_T26 y.f4 a) (ps.drop (i + 1).toNat) = R := by have := HST.out; rwa [if_neg hneg] at this
            have hsl : a < (y.f4.length : Int) := by have := HLR.out.2; have := HKL.out; omega
            have hs0 : 0 ≤ a := by omega
            obtain ⟨ad, B4, d4, B5, d5, eB, hAt, hl4, hk4, hl5, hk5⟩ := At.of_elem HR.out.k4 a hs0 hsl
            subst eB
            obtain ⟨d'', hkids⟩ := HKD.out
            have HO2 := Aside0.mk (⟨d'', hkids _ (rd_mem y.f4 a hs0 hsl)⟩ : ∃ d', okG d' (rd_T26 y.f4 a))
            have HR2 := Aside0.mk (⟨hk4, hl4, hk5, hl5⟩ : Rows4 w (rd_T26 y.f4 a) B4 d4 B5 d5)
            have HM2 := Aside0.mk hM2
            have r0 := eq_true hs0
            have r1 := eq_true hsl
            obtain ⟨a0, a1, a2, a3, a4, a5⟩ := hAt.below HB.out
            have GB := Lib.hid (show w.heap.size ≤ gb by rw [GE.out]; exact Nat.le_refl _)
            clear hM2 hAt hl4 hk4 hl5 hk5 hneg hk1 hk0 hs0 hsl hkids
            go_wp2_with (first | ((with_reducible refine gate_store (t := 26) (p := 2) rfl ?_); refine row_event (by rfl) (by rfl) (by rfl) (by rfl) (by rfl) BK.out (by exact size26) (by rfl) (by first | rfl | simp [Value.oneCell']) ?_; intro w5 hz5 ho5 hb5; have Z5 := Aside0.mk hz5; clear hz5; have ZZ5 := Aside0.mk ((ho5 gz (fun h => NE.out h.symm)).trans BZ.out); have HB5 := Aside0.mk (hb5 GB.out HB.out); clear hb5 ho5))
            go_roundg k2
            case measure => omega
            case rel => exact ⟨i + 1, rd_T26 y.f4 a, B4, d4, B5, d5, rfl, HI2H.out, HM2, HO2, HR2, Z5, ZZ5, HB5⟩
        | succ m2 =>
          have hlk : decide (k < (y.f5.length : Int)) = true := decide_eq_true (by omega)
          have hkl : k < (y.f5.length : Int) := by omega
          obtain ⟨kd, ek, hkc⟩ := Kd.at_string (Kd.C_below HR.out.k5 HB.out) k hk0 hkl
          have ky := pw_cell_below (below_drew (Below.refl wr.heap.size wr)) hkc
          have pcd := pw_cell_below (below_drew (Below.refl wr.heap.size wr)) (pw_cell_below HB.out HPC.out)
          have u0 := eq_true hk0; have u1 := eq_true hkl
          have hla := HLA.out
          rw [show lastL y.f5 key (m2 + 1) k.toNat a = lastL y.f5 key m2 (k.toNat + 1) (if (y.f5.getD k.toNat ByteArray.empty).toList = key.toList then (k.toNat : Int) else a) from rfl, Int.toNat_of_nonneg hk0, show k.toNat + 1 = (k + 1).toNat by omega] at hla
          rw [show rdOf ByteArray.empty y.f5 k = y.f5.getD k.toNat ByteArray.empty from rfl] at ky
          have wk := wrap_small (k + 1) (by omega) (by have := H64.out; omega)
          have HK2 := Aside0.mk (show k + 1 + m2 = y.f5.length ∧ 0 ≤ k + 1 from ⟨by omega, by omega⟩)
          subst ek
          generalize y.f5.getD k.toNat ByteArray.empty = kk at *
          obtain ⟨q, hq⟩ : ∃ q, (kk.toList == key.toList) = q := ⟨_, rfl⟩
          have HLN := Lib.hid (show lastL y.f5 key m2 (k + 1).toNat (if q = true then k else a) = L from by
            rw [← hla]
            congr 1
            rw [← hq]
            simp)
          clear hla hkc hk1 hk0 hkl HLA g0 g1 g2 g3 g4
          have g5d : wr.drew.cell? ⟨gb, 5, none⟩ = some (.slice (some kd) y.f5.length e5) := pw_cell_below (below_drew (Below.refl wr.heap.size wr)) g5
          go_upto_region 12 with (fail)
          clear g5
          go_cut [44] (fun v44 wc => v44 = .bool q ∧ Aside0 (Below wr.heap.size wr wc))
          case first =>
            go_region_held3 (fun w' => w'.cell? ⟨gb, 5, none⟩ = some (.slice (some kd) y.f5.length e5) ∧ w'.cell? (kd.add k.toNat) = some (.string kk) ∧ w'.cell? (pd.add i.toNat) = some (.string key)) (first | exact ⟨g5d, ky, pcd⟩ | assumption) (fail)
            all_goals
              (try go_wp2)
              go_meet
              case rel => exact ⟨by first | rfl | rw [hq] | (rw [← hq]), ⟨below_drew (Below.refl _ _)⟩⟩
          case rest =>
          obtain ⟨rfl, hbc⟩ := hcut
          have BK2 := Aside0.mk (blk_below BK.out hbc.out); have BZ2 := Aside0.mk (blk_below BZ.out hbc.out); have HB2 := Aside0.mk (below_step HB.out hbc.out)
          cases q
          all_goals
            go_wp2
            go_roundg m2
            case measure => omega
            case rel => exact ⟨k + 1, _, rfl, by first | rfl | rw [wk], HK2, ⟨HLN.out⟩, BK2, BZ2, HB2⟩
end Go.Proofs.YtepolmajebdphaaDoor.Values
